/- What this claim rests on. -/
import Derived.Test.YtoelhdjloaknbaaGreatUKn1
import Derived.Test.YtoelhdjloaknbaaGreatUNz4
import Derived.Test.YtoelhdjloaknbaaGreatUSd1
import Derived.Test.YtoelhdjloaknbaaGreatUW2
namespace Go.Proofs.YtoelhdjloaknbaaGreat
set_option maxRecDepth 100000
open Go.RowKit Go.ChangeShapes Go.WideShapes Go.Deep Go.Joins Go.Proofs.Tryz
theorem XU {f:Nat->Int}:∀ n,(∀ j,j<n->0<=f j/\f j<=40)->0<=tz f n/\tz f n<=40*n
 | 0,_=>by unfold tz;omega
 | n+1,h=>by
  have h1:=XU n fun j hj=>h j (by omega)
  have h2:=h n (by omega)
  unfold tz
  omega
theorem WP {G:List Grp} {ws:Nat->SL} {D:List Nat} {j:Nat}:NI G ws (D++[j])=NI G ws D++[Fh ws j (gd G (j:Nat))]:=by simp [NI]
theorem Xi {g:Gal} {G:List Grp} {F:List Bool} (hl:F.length=G.length) (h:g.chkG G=0):g.chkG (B0 G F)=0:=by
 obtain ⟨_,hq⟩:=Gal.chkG_ok h
 unfold Gal.chkG at h ⊢
 split at h
 ·rename_i e
  rw [if_pos e]
  exact NP hl hq
 ·rename_i e
  exact absurd h e
theorem XM {σ:Hp} {W:GaW} {g:Gal} {l:SL} {ws:Nat->SL} {G:List Grp} {mo:Int} (h:GaR σ W g) (_:W.e.n<=W.e.c) (hl:RdS sG σ l.A l.n (G.mapIdx (Fh ws))) (hw:∀ i,(h:i<G.length)->RdS aM σ (ws i).A (ws i).n G[i].wants):Af prog 7 #[W.v g,l.v,aD mo] σ fun v _=>v=.bool true:=by
 have he:EvR σ W.r g.B l ws G:=⟨h.r,hl,hw⟩
 apply KO
 unfold Eo
 have hln:=he.lenL
 refine Ah fun J3 h3=>Ah fun J39 h39=>?_
 have k39:J39 true σ:=by
  rw [h39]
  intro _
  exact ZR (Lg (Al rfl))
 refine clB (aV 18) (WF h he) (C4 (fun _=>k39) (fun hf=>?_))
 rw [Bool.or_eq_false_iff] at hf
 have hn:=ZO hf.1
 obtain ⟨f1,f2,f3⟩:=Aa0 hf.2
 by_cases h12:(12:Int)<(l.n:Int)
 ·rw [decide_eq_true h12]
  exact k39
 rw [decide_eq_false h12,h39]
 intro _
 refine Aa2 ?_
 rw [h3]
 intro _
 refine AW (aV 13) (ZG h hn) ?_
 rintro v s8 ⟨Q,rfl,hs8,hq⟩
 refine ⟨_,_,_,_,_,_,_,_,_,_,_,_,_,_,_,_,_,_,_,_,_,_,_,_,_,_,_,_,_,_,_,_,rfl,?_⟩
 refine AW (aV 20) (QQ (W:=W) (he.sub hs8) (by omega) fun k hk=>by have:=f3 k hk;omega) ?_
 rintro v s24 ⟨l',ws',rfl,hs24,hE⟩
 refine ⟨_,_,_,rfl,hs24,?_⟩
 have hq24:=hq.sub hs24
 refine AW (aV 19) (Xy (m:=mo) hq24 (hE hq24.r) (.inl (by omega))) ?_
 rintro v s27 ⟨s,rfl,hs27,hr1⟩
 refine ⟨_,_,_,_,rfl,BQ (fun _=>Lg (Al rfl)) (fun e0=>?_)⟩
 have hs:=hs8.trans (hs24.trans hs27)
 have hq27:=hq24.sub hs27
 have he27:=he.sub hs
 obtain ⟨eG,em⟩:g.chkG G=0/\0<=mo:=by
  unfold Gal.admE at e0
  split at e0
  ·rename_i e
   refine ⟨e,?_⟩
   split at e0
   ·rename_i e2
    unfold Inn at e2
    simp only [decide_eq_true_eq] at e2
    exact e2.1
   ·omega
  ·rename_i e
   exact absurd e0 e
 obtain ⟨hg,hqG⟩:=Gal.chkG_ok eG
 have hv:=Cu hqG
 have hadm:g.admits G mo=nIz (AX (g.admF G mo G.length)):=if_pos e0
 rw [hadm] at hr1
 have hmost:=WJ (g:=g) (G:=G) (m:=mo) hqG em
 have hall:=W1 (g:=g) (G:=G) (m:=mo) hqG
 have hFl:=Fp (g:=g) (G:=G) (m:=mo) G.length (Nat.le_refl _)
 generalize g.admF G mo G.length=F at *
 have eS:=Xi (g:=g) hFl eG
 have hpres:g.pres (B0 G F)<=mo:=by
  unfold Gal.pres
  rw [if_pos eS]
  exact hmost
 have hle:=NO (F:=F)
 have hsn:s.n=(AX F).length:=by
  have:=hr1.lenI
  rw [IG] at this
  exact this
 refine Ah fun J32 h32=>?_
 have k32:J32 (tz (fun j:Nat=>(gd G (j:Nat)).size) G.length) s27:=by
  rw [h32]
  intro _
  refine Ah fun J36 h36=>?_
  have k36:J36 (NI G ws (AX F)) s27:=by
   rw [h36]
   intro _ A n c s39 ho
   have hs39:=ho.sub
   obtain ⟨s61,hs61⟩:∃ s:SL,s=⟨A,n,c⟩:=⟨_,rfl⟩
   obtain ⟨ws2,hEv⟩:∃ ws2,EvR s39 W.r g.B s61 ws2 (B0 G F):=⟨_,by rw [hs61];exact Aao (c:=c) (he27.sub hs39) hFl ho.rd⟩
   have eA:A=s61.A:=by rw [hs61]
   have en:n=s61.n:=by rw [hs61]
   have ec:c=s61.c:=by rw [hs61]
   rw [eA,en,ec]
   have hSl:=Cd (G:=G) (F:=F)
   refine AW (aV 20) (QQ (W:=W) hEv (by omega) fun k hk=>by
    have h1:=hk
    rw [hSl] at h1
    rw [N0 hk]
    have hm:=(CW.1 (List.getElem_mem h1)).1
    rw [Hv (by omega)]
    have:=f3 _ (show (AX F)[k]<G.length by omega)
    omega) ?_
   rintro v s41 ⟨l2,ws3,rfl,hs41,hE2⟩
   refine ⟨_,_,_,rfl,hs41,?_⟩
   have hq41:=(hq27.sub hs39).sub hs41
   refine AW (aV 23) (RL hq41 (hE2 hq41.r)) ?_
   rintro v s44 ⟨rfl,rfl⟩
   refine ⟨_,_,rfl,?_⟩
   rw [eS,decide_eq_true hpres]
   refine ZR (ZR (AF (fun _=>Lg (Al rfl)) (fun a=>?_)))
   have:=hall (by omega)
   rw [decide_eq_true (by omega:(s.n:Int)=(l.n:Int))]
   exact ZR (Lg (Al rfl))
  refine ⟨fun q xs i τ=>∃ j:Nat,q=(AX F).length-j/\xs=NI G ws ((AX F).take j)/\i=j/\j<=(AX F).length/\τ=s27,⟨_,Fi.2 ⟨0,rfl,rfl,rfl,by omega,rfl⟩⟩,?_⟩
  rintro q xs i τ ⟨j,rfl,rfl,rfl,hj,rfl⟩ _
  refine AF (fun hlt=>?_) (fun hlt=>?_)
  ·have hjl:j<(AX F).length:=by omega
   have hx:=(CW.1 (List.getElem_mem hjl)).1
   have ex:gt (nIz (AX F)) (j:Nat)=((AX F)[j]:Nat):=Ub hjl
   have hN:=IG (l:=AX F)
   refine Ah fun J63 h63=>?_
   have k63:J63 (NI G ws ((AX F).take (j+1))) τ:=by
    rw [h63]
    intro _
    exact AS (by omega) (Be _ (by omega) ⟨j+1,rfl,rfl,by omega,by omega,rfl⟩)
   rw [List.take_succ_eq_append_getElem hjl,WP] at k63
   refine Ah fun J70 h70=>?_
   have k70:J70 τ:=by
    rw [h70]
    intro _
    refine EJ hr1 (by omega) (by omega) ?_
    rw [ex]
    refine he27.gix5 (by omega) fun b o c0 c1 c2 c3 c4=>AV c0 (AV c1 (AV c2 (Qj c3 (AV c4 ?_))))
    have hal:(NI G ws ((AX F).take j)).length=j:=by simp [NI];omega
    exact AY (by show (NI G ws ((AX F).take j)).length+1<=_;omega) k63
   refine Ah fun J83 h83=>?_
   have k83:J83 false τ:=by
    rw [h83]
    intro _
    exact Aa2 k70
   refine EJ hr1 (by omega) (by omega) (AF (fun a=>absurd a (by omega)) (fun _=>EJ hr1 (by omega) (by omega) (AF (fun a=>absurd a (by omega)) (fun _=>AF (fun a=>?_) (fun _=>k83)))))
   refine EJ hr1 (by omega) (by omega) (AS (by omega) (EJ hr1 (by omega) (by omega) ?_))
   have e1:(j:Int)-1=((j-1:Nat):Int):=by omega
   have hlt1:=List.pairwise_iff_getElem.1 (Hc (F:=F)) (j-1) j (by omega) hjl (by omega)
   rw [e1,ex,Ub (show j-1<(AX F).length by omega),decide_eq_false (by omega)]
   exact k83
  ·obtain rfl:j=(AX F).length:=by omega
   rw [List.take_length]
   exact k36
 clear h32
 refine ⟨fun q x i τ=>∃ j:Nat,q=G.length-j/\x=tz (fun j:Nat=>(gd G (j:Nat)).size) j/\i=j/\j<=G.length/\τ=s27,⟨_,0,rfl,rfl,rfl,by omega,rfl⟩,?_⟩
 rintro q x i τ ⟨j,rfl,rfl,rfl,hj,rfl⟩ _
 refine AF (fun hlt=>?_) (fun hlt=>?_)
 ·have hjl:j<G.length:=by omega
  have hb:=XU (f:=fun j:Nat=>(gd G (j:Nat)).size) (j+1) fun i hi=>by
   have:=hv.gr (g:=(i:Nat)) (by omega) (by omega)
   show 0<=(gd G (i:Nat)).size/\(gd G (i:Nat)).size<=40
   omega
  refine he27.gix5 hjl fun b o _ c1 _ _ _=>AV c1 (AS (by unfold tz at hb;omega) (AS (by omega) (Be _ (by omega) ⟨j+1,rfl,rfl,by omega,by omega,rfl⟩)))
 ·obtain rfl:j=G.length:=by omega
  exact k32
theorem T2 (os:Os) (started:os.Started) (H:Type) (enc:TypeId×Value->H):
  ReturnsInHanded {} Tryz.checked os 7 .any (Rows.nightRoomSpec.pre6 enc prog Tryz.f7 Rows.nightRoomRow.domain false) (Rows.nightRoomSpec.post enc prog Tryz.f7 false true false false):=by
 refine returnsInHanded_of_change (C:=Tryz.checked) Tryz.own started (by kernel_rfl) Tryz.func7
  (ChangeSpec.witness6 (enc:=enc) (C:=Tryz.checked) false ⟨#[],#[.agg #[aN none 0 0,aD 0,aN none 0 0,aN none 0 0,aN none 0 0,aN none 0 0,aD 0,aN none 0 0,aN none 0 0,aD 0,aD 0,aD 0,aN none 0 0,aN none 0 0],aN none 0 0,aD 0],[]⟩ 8 (by kernel_rfl) (by kernel_rfl) (by kernel_rfl) (by kernel_rfl)) ?_
 intro W base args ds gs before hval0 hW _ _
 have hval:∀ (j:Nat) t v,Tryz.f7.params[j]? = some t->args[j]? = some v->Value.okWide prog W .any base t v:=hval0
 have hW':=hW
 obtain ⟨p,q,hA0,hV,rfl,hfz,hnd⟩:=hW
 have hA:DataW.TrodAll enc prog W 0 (fun _=>true) true Tryz.f7.params.toList args.toList ds p:=hA0
 have hA1:=hA
 rw [Tryz.params7] at hA hval
 obtain ⟨v0,v1,v2,d0,d1,d2,p0,p1,p2,rfl,rfl,rfl,h0,h1,h2⟩:=trodAll_three hA
 obtain ⟨rfl,rfl⟩:=trodVars_none hV
 obtain ⟨W0,g,rfl,hgc,hg⟩:=Wx (hval 0 35 v0 rfl rfl) h0
 obtain ⟨l,ws,G,rfl,hl,hw⟩:=S4 (hval 1 57 v1 rfl rfl) h1
 obtain ⟨mo,rfl⟩:=V6 (hval 2 3 v2 rfl rfl) h2
 simp only [List.append_nil] at hW' hA1
 exact YR Tryz.laidOut (by kernel_rfl) rfl Tryz.underlying4 rfl rfl hW' hA1 (XM hg hgc hl hw)
theorem R4:(Rows.nightRoomRow.inPlace==prog.inPlace 7)=true:=by kernel_rfl
theorem R5:(Rows.nightRoomRow.unfollowed==prog.unfollowed 7)=true:=by kernel_rfl
theorem Su:(Rows.nightRoomRow.recurses==prog.recurses 7)=true:=by kernel_rfl
theorem RY:(Rows.nightRoomRow.named==prog.varsNamed 7)=true:=by kernel_rfl
theorem Of:joinedFacts prog 7 Tryz.f7 Rows.nightRoomSpec Rows.nightRoomRow=true:=by
 unfold joinedFacts
 refine Bp (Bp (Bp (Bp (Bp (Bp (Bp (Bp (Bp (Bp (Bp (Bp (Bp (Bp (Bp (Bp (Bp (Bp (Bp (Bp (Bp (Bp (Bp (Bp (Bp (Bp (Bp (Bp (Bp (Bp (Bp ?_ Tryz.laidOut) ZM) ?_) ?_) ?_) W6) ?_) W2) R4) R5) Su) RY) ?_) ?_) ?_) ?_) ?_) ?_) ?_) ?_) ?_) X3) ?_) XS) YC) Zv) Zn) ?_) ?_) ?_) ?_
 all_goals kernel_rfl
theorem nightRoom_holds:Rows.NightRoomSaid:=
 OpenClaim.holds_of_wide 7 Tryz.f7 rfl rfl rfl rfl rfl rfl rfl ⟨rfl,rfl,rfl,rfl,rfl⟩ rfl rfl rfl rfl rfl (by kernel_rfl) Tryz.func7 Of
  (of_decide_eq_true (by kernel_rfl)) (by unfold Func.isWrapper;rw [if_neg (of_decide_eq_false (by kernel_rfl))];exact ⟨rfl,rfl⟩)
  (fun os started H enc _=>T2 os started H enc)
end Go.Proofs.YtoelhdjloaknbaaGreat
