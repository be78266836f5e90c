/- Trimmed by wip/trim.py to what this claim rests on. -/
import Derived.Test.YthhadkggldcolaaGreatVKn1
import Derived.Test.YthhadkggldcolaaGreatVRa9
namespace Go.Proofs.YthhadkggldcolaaGreat
set_option maxRecDepth 100000
open Go.RowKit Go.ChangeShapes Go.WideShapes Go.Deep Go.Joins
theorem ZN {σ:Hp} {W:GaW} {g:Gal} {l:SL} {ws:Nat->SL} {G:List Grp} (h:GaR σ W g) (hc:W.e.n<=W.e.c) (hl:RdS sG σ l.A l.n (G.mapIdx (CG ws))) (hw:∀ i,(h:i<G.length)->RdS [.int .i64] σ (ws i).A (ws i).n G[i].wants):Af Tryz.prog BG #[W.v g,l.v] σ fun v _=>v=.bool true:=by
 have he:EvR σ W.r g.B l ws G:=⟨h.r,hl,hw⟩
 refine Lv _ _ _ _ _ _ _ _ _ _ _ _ _ _ _ _ _ _ _ _ _ _ _ _ _ _ _ _ _ _ _ _ _ _ _ _ _ ?_
 unfold D3
 refine clB LL (Aar h he) (BI (fun _=>UW (Ah rfl)) (fun hf=>?_))
 rw [Bool.or_eq_false_iff] at hf
 have hn:=AcG hf.1
 obtain ⟨f1,f2,f3⟩:=AdW hf.2
 refine Be O4 (Ada h hn) ?_
 rintro v σ8 ⟨Q,rfl,hs8,hq⟩
 refine ⟨_,_,_,_,_,_,_,_,_,_,_,_,_,_,_,_,_,_,_,_,_,_,_,_,_,_,_,_,_,_,_,_,rfl,?_⟩
 refine Be Ms (X6 (W:=W) (he.sub hs8) (by omega) fun k hk=>by have:=f3 k hk;omega) ?_
 rintro v σ24 ⟨l',ws',rfl,hs24,hE⟩
 refine ⟨_,_,_,rfl,?_⟩
 have hq24:=hq.sub hs24
 refine Be Od (Acp hq24 (hE hq24.r)) ?_
 rintro v σ27 ⟨s27,rfl,hs27,hr27⟩
 refine ⟨_,_,_,_,rfl,?_⟩
 have hs:=hs8.trans (hs24.trans hs27)
 refine Be Oe (AcQ (h.sub hs) (he.sub hs) (by omega) hc (by omega) fun k hk=>by have:=f3 k hk;omega) ?_
 rintro v σ31 ⟨s31,rfl,hs31,hr31⟩
 refine ⟨_,_,_,_,rfl,?_⟩
 have hpl:=ZF (g:=g) (G:=G)
 refine clB IV (ZU (hr27.sub hs31) hr31 (by omega) rfl) ?_
 exact Afi (AA (fun _=>UW (Ah rfl)) (fun a=>absurd rfl a))
theorem Vl (os:Os) (started:os.Started) (H:Type) (enc:TypeId×Value->H):
  ReturnsInHanded {} Tryz.checked os BG .any (Rows.nightPlaysSpec.pre6 enc Tryz.prog Tryz.f5 Rows.nightPlaysRow.domain false) (Rows.nightPlaysSpec.post enc Tryz.prog Tryz.f5 false true false false):=by
 refine returnsInHanded_of_change (C:=Tryz.checked) Tryz.own started (by kernel_rfl) Tryz.func5
  (ChangeSpec.witness6 (enc:=enc) (C:=Tryz.checked) false ⟨#[],#[.agg #[.slice none 0 0,.int .i64 0,.slice none 0 0,.slice none 0 0,.slice none 0 0,.slice none 0 0,.int .i64 0,.slice none 0 0,.slice none 0 0,.int .i64 0,.int .i64 0,.int .i64 0,.slice none 0 0,.slice none 0 0],.slice none 0 0],[]⟩ 8 (by kernel_rfl) (by kernel_rfl) (by kernel_rfl) (by kernel_rfl)) ?_
 intro W base args ds gs before hval0 hW _ _
 have hval:∀ (j:Nat) t v,Tryz.f5.params[j]? = some t->args[j]? = some v->Value.okWide Tryz.prog W .any base t v:=hval0
 have hW':=hW
 obtain ⟨p,q,hA0,hV,rfl,hfz,hnd⟩:=hW
 have hA:DataW.TrodAll enc Tryz.prog W 0 (fun _=>true) true Tryz.f5.params.toList args.toList ds p:=hA0
 have hA1:=hA
 rw [Tryz.params5] at hA hval
 obtain ⟨v0,v1,d0,d1,p0,p1,rfl,rfl,rfl,h0,h1⟩:=trodAll_two hA
 obtain ⟨rfl,rfl⟩:=trodVars_none hV
 obtain ⟨W0,g,rfl,hgc,hg⟩:=Zz (hval 0 35 v0 rfl rfl) h0
 obtain ⟨l,ws,G,rfl,hl,hw⟩:=WV (hval 1 48 v1 rfl rfl) h1
 simp only [List.append_nil] at hW' hA1
 exact Abl Tryz.laidOut (by kernel_rfl) rfl Tryz.underlying4 rfl rfl hW' hA1 (ZN hg hgc hl hw)
theorem Uy:(Rows.nightPlaysRow.inPlace==Tryz.prog.inPlace BG)=true:=by kernel_rfl
theorem Uh:(Rows.nightPlaysRow.unfollowed==Tryz.prog.unfollowed BG)=true:=by kernel_rfl
theorem Uw:(Rows.nightPlaysRow.recurses==Tryz.prog.recurses BG)=true:=by kernel_rfl
theorem Up:(Rows.nightPlaysRow.named==Tryz.prog.varsNamed BG)=true:=by kernel_rfl
theorem PQ:joinedFacts Tryz.prog BG Tryz.f5 Rows.nightPlaysSpec Rows.nightPlaysRow=true:=by
 unfold joinedFacts
 refine BO (BO (BO (BO (BO (BO (BO (BO (BO (BO (BO (BO (BO (BO (BO (BO (BO (BO (BO (BO (BO (BO (BO (BO (BO (BO (BO (BO (BO (BO (BO ?_ Tryz.laidOut) AcK) ?_) ?_) ?_) AaN) ?_) AaF) Uy) Uh) Uw) Up) ?_) ?_) ?_) ?_) ?_) ?_) ?_) ?_) ?_) Abe) ?_) AaL) Abf) Aco) Adn) ?_) ?_) ?_) ?_
 all_goals kernel_rfl
theorem nightPlays_holds:Rows.NightPlaysSaid:=
 OpenClaim.holds_of_wide BG Tryz.f5 rfl rfl rfl rfl rfl rfl rfl ⟨rfl,rfl,rfl,rfl,rfl⟩ rfl rfl rfl rfl rfl (by kernel_rfl) Tryz.func5 PQ
  (of_decide_eq_true (by kernel_rfl)) (by unfold Func.isWrapper;rw [if_neg (of_decide_eq_false (by kernel_rfl))];exact ⟨rfl,rfl⟩)
  (fun os started H enc _=>Vl os started H enc)
end Go.Proofs.YthhadkggldcolaaGreat
