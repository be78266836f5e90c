/- What this claim rests on. -/
import Derived.Test.YtoelhdjloaknbaaGreatVKn1
import Derived.Test.YtoelhdjloaknbaaGreatVNz4
namespace Go.Proofs.YtoelhdjloaknbaaGreat
set_option maxRecDepth 100000
open Go.RowKit Go.ChangeShapes Go.WideShapes Go.Deep Go.Joins Go.Proofs.Tryz
theorem Aa2 {g:Gal} {G:List Grp} {m:Int}:(g.admits G m).length<=G.length:=by
 unfold Gal.admits
 split
 ·rw [K1]
  exact Nat.le_trans M3 (by rw [Qf _ (Nat.le_refl _)];exact Nat.le_refl _)
 ·simp
theorem Y8 {σ:Hp} {W:GaW} {g:Gal} {l:SL} {ws:Nat->SL} {G:List Grp} {mo:Int} (h:GaR σ W g) (hc:W.e.n<=W.e.c) (hl:RdS sG σ l.A l.n (G.mapIdx (Cy ws))) (hw:∀ i,(h:i<G.length)->RdS aM σ (ws i).A (ws i).n G[i].wants):Af prog 6 #[W.v g,l.v,aD mo] σ fun v _=>v=.bool true:=by
 have he:EvR σ W.r g.B l ws G:=⟨h.r,hl,hw⟩
 apply KB
 unfold DW
 have hln:=he.lenL
 refine Ad fun J3 h3=>Ad fun J39 h39=>?_
 have k39:J39 true σ:=by
  rw [h39]
  intro _
  exact Agl (VG (Ai rfl))
 refine clB (aW 18) (Aba h he) (BO (fun _=>k39) (fun hf=>?_))
 rw [Bool.or_eq_false_iff] at hf
 have hn:=Aem hf.1
 obtain ⟨f1,f2,f3⟩:=AfA hf.2
 have k3:G.length<=12∨60<G.length->J39 false σ:=by
  intro hG12
  rw [h39]
  intro _
  refine AeQ ?_
  rw [h3]
  intro _
  refine Bd (aW 13) (Aes h hn) ?_
  rintro v s8 ⟨Q,rfl,hs8,hq⟩
  refine ⟨_,_,_,_,_,_,_,_,_,_,_,_,_,_,_,_,_,_,_,_,_,_,_,_,_,_,_,_,_,_,_,_,rfl,?_⟩
  refine Bd (aW 20) (YO (W:=W) (he.sub hs8) (by omega) fun k hk=>by have:=f3 k hk;omega) ?_
  rintro v s24 ⟨l',ws',rfl,hs24,hE⟩
  refine ⟨_,_,_,rfl,?_⟩
  have hq24:=hq.sub hs24
  refine Bd (aW 19) (Ab7 hq24 (hE hq24.r) hG12) ?_
  rintro v s27 ⟨s,rfl,hs27,hr1⟩
  refine ⟨_,_,_,_,rfl,?_⟩
  have hs:=hs8.trans (hs24.trans hs27)
  refine Bd (aW 21) (Ab9 (h.sub hs) (he.sub hs) (by omega) hc (by omega) fun k hk=>by have:=f3 k hk;omega) ?_
  rintro v s31 ⟨s2,rfl,hs31,hr2⟩
  have hle:=Aa2 (g:=g) (G:=G) (m:=mo)
  refine ⟨_,_,_,_,rfl,clB (aW 22) (Abl (hr1.sub hs31) hr2 (by omega)) ?_⟩
  rw [decide_eq_true rfl]
  exact Agl (Az (fun _=>VG (Ai rfl)) (fun a=>absurd rfl a))
 refine Az (fun a=>?_) (fun a=>k3 (by omega))
 by_cases h60:(l.n:Int)<=60
 ·rw [decide_eq_true h60]
  exact k39
 ·rw [decide_eq_false h60]
  exact k3 (by omega)
theorem U2 (os:Os) (started:os.Started) (H:Type) (enc:TypeId×Value->H):
  ReturnsInHanded {} Tryz.checked os 6 .any (Rows.nightAdmitsSpec.pre6 enc prog Tryz.f6 Rows.nightAdmitsRow.domain false) (Rows.nightAdmitsSpec.post enc prog Tryz.f6 false true false false):=by
 refine returnsInHanded_of_change (C:=Tryz.checked) Tryz.own started (by kernel_rfl) Tryz.func6
  (ChangeSpec.witness6 (enc:=enc) (C:=Tryz.checked) false ⟨#[],#[.agg #[aN none 0 0,aD 0,aN none 0 0,aN none 0 0,aN none 0 0,aN none 0 0,aD 0,aN none 0 0,aN none 0 0,aD 0,aD 0,aD 0,aN none 0 0,aN none 0 0],aN none 0 0,aD 0],[]⟩ 8 (by kernel_rfl) (by kernel_rfl) (by kernel_rfl) (by kernel_rfl)) ?_
 intro W base args ds gs before hval0 hW _ _
 have hval:∀ (j:Nat) t v,Tryz.f6.params[j]? = some t->args[j]? = some v->Value.okWide prog W .any base t v:=hval0
 have hW':=hW
 obtain ⟨p,q,hA0,hV,rfl,hfz,hnd⟩:=hW
 have hA:DataW.TrodAll enc prog W 0 (fun _=>true) true Tryz.f6.params.toList args.toList ds p:=hA0
 have hA1:=hA
 rw [Tryz.params6] at hA hval
 obtain ⟨v0,v1,v2,d0,d1,d2,p0,p1,p2,rfl,rfl,rfl,h0,h1,h2⟩:=trodAll_three hA
 obtain ⟨rfl,rfl⟩:=trodVars_none hV
 obtain ⟨W0,g,rfl,hgc,hg⟩:=Abm (hval 0 35 v0 rfl rfl) h0
 obtain ⟨l,ws,G,rfl,hl,hw⟩:=YD (hval 1 57 v1 rfl rfl) h1
 obtain ⟨mo,rfl⟩:=AaX (hval 2 3 v2 rfl rfl) h2
 simp only [List.append_nil] at hW' hA1
 exact AbG Tryz.laidOut (by kernel_rfl) rfl Tryz.underlying4 rfl rfl hW' hA1 (Y8 hg hgc hl hw)
theorem Uw:(Rows.nightAdmitsRow.inPlace==prog.inPlace 6)=true:=by kernel_rfl
theorem Un:(Rows.nightAdmitsRow.unfollowed==prog.unfollowed 6)=true:=by kernel_rfl
theorem UD:(Rows.nightAdmitsRow.recurses==prog.recurses 6)=true:=by kernel_rfl
theorem Us:(Rows.nightAdmitsRow.named==prog.varsNamed 6)=true:=by kernel_rfl
theorem O9:joinedFacts prog 6 Tryz.f6 Rows.nightAdmitsSpec Rows.nightAdmitsRow=true:=by
 unfold joinedFacts
 refine BQ (BQ (BQ (BQ (BQ (BQ (BQ (BQ (BQ (BQ (BQ (BQ (BQ (BQ (BQ (BQ (BQ (BQ (BQ (BQ (BQ (BQ (BQ (BQ (BQ (BQ (BQ (BQ (BQ (BQ (BQ ?_ Tryz.laidOut) Aec) ?_) ?_) ?_) AcO) ?_) AcN) Uw) Un) UD) Us) ?_) ?_) ?_) ?_) ?_) ?_) ?_) ?_) ?_) Ac9) ?_) Ace) Adl) AdK) Ad5) ?_) ?_) ?_) ?_
 all_goals kernel_rfl
theorem nightAdmits_holds:Rows.NightAdmitsSaid:=
 OpenClaim.holds_of_wide 6 Tryz.f6 rfl rfl rfl rfl rfl rfl rfl ⟨rfl,rfl,rfl,rfl,rfl⟩ rfl rfl rfl rfl rfl (by kernel_rfl) Tryz.func6 O9
  (of_decide_eq_true (by kernel_rfl)) (by unfold Func.isWrapper;rw [if_neg (of_decide_eq_false (by kernel_rfl))];exact ⟨rfl,rfl⟩)
  (fun os started H enc _=>U2 os started H enc)
end Go.Proofs.YtoelhdjloaknbaaGreat
