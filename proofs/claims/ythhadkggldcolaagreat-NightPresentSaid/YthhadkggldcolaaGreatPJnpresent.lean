/- Trimmed by wip/trim.py to what this claim rests on. -/
import Derived.Test.YthhadkggldcolaaGreatPKn1
import Derived.Test.YthhadkggldcolaaGreatPNo1
namespace Go.Proofs.YthhadkggldcolaaGreat
set_option maxRecDepth 100000
open Go.RowKit Go.ChangeShapes Go.WideShapes Go.Deep Go.Joins
theorem WP {σ:Hp} {W:GaW} {g:Gal} {l:SL} {ws:Nat->SL} {G:List Grp} (h:GaR σ W g) (hc:W.e.n<=W.e.c) (hl:RdS sG σ l.A l.n (G.mapIdx (CA ws))) (hw:∀ i,(h:i < G.length)->RdS [.int .i64] σ (ws i).A (ws i).n G[i].wants):Af Tryz.prog Bv #[W.v g,l.v] σ fun v _=>v=.bool true:=by
 have he:EvR σ W.r g.B l ws G:=⟨h.r,hl,hw⟩
 refine IR _ _ _ _ _ _ _ _ _ _ _ _ _ _ _ _ _ _ _ _ _ _ _ _ _ _ _ _ _ _ _ _ _ _ _ _ _ ?_
 unfold C1
 refine clB K9 (Y3 h he) (BJ (fun _=>Uw (Ah rfl)) (fun hf=>?_))
 rw [Bool.or_eq_false_iff] at hf
 have hn:=Aco hf.1
 obtain ⟨f1,f2,f3⟩:=Ady hf.2
 refine Be Oe (Acj h hn) ?_
 rintro v σ8 ⟨Q,rfl,hs8,hq⟩
 refine ⟨_,_,_,_,_,_,_,_,_,_,_,_,_,_,_,_,_,_,_,_,_,_,_,_,_,_,_,_,_,_,_,_,rfl,?_⟩
 refine Be LE (XC (W:=W) (he.sub hs8) (by omega) fun k hk=>by have:=f3 k hk; omega) ?_
 rintro v σ24 ⟨l',ws',rfl,hs24,hE⟩
 refine ⟨_,_,_,rfl,?_⟩
 have hq24:=hq.sub hs24
 refine Be Fe (Um hq24 (hE hq24.r)) ?_
 rintro v σ27 ⟨rfl,rfl⟩
 refine ⟨_,_,rfl,?_⟩
 have hs:=hs8.trans hs24
 refine Be Lh (X9 (h.sub hs) (he.sub hs) (by omega) hc (by omega) fun k hk=>by have:=f3 k hk; omega) ?_
 rintro v σ31 ⟨rfl,hs31⟩
 refine ⟨_,_,rfl,AA (fun _=>AA (fun _=>Uw (Ah rfl)) (fun a=>absurd rfl a)) (fun a=>absurd rfl a)⟩
theorem TI (os:Os) (started:os.Started) (H:Type) (enc:TypeId×Value->H) :
  ReturnsInHanded {} Tryz.checked os Bv .any (Rows.nightPresentSpec.pre6 enc Tryz.prog Tryz.f4 Rows.nightPresentRow.domain false) (Rows.nightPresentSpec.post enc Tryz.prog Tryz.f4 false true false false):=by
 refine returnsInHanded_of_change (C:=Tryz.checked) Tryz.own started (by kernel_rfl) Tryz.func4
  (ChangeSpec.witness6 (enc:=enc) (C:=Tryz.checked) false ⟨#[],#[.agg #[.slice none 0 0,.int .i64 0,.slice none 0 0,.slice none 0 0,.slice none 0 0,.slice none 0 0,.int .i64 0,.slice none 0 0,.slice none 0 0,.int .i64 0,.int .i64 0,.int .i64 0,.slice none 0 0,.slice none 0 0],.slice none 0 0],[]⟩ 8 (by kernel_rfl) (by kernel_rfl) (by kernel_rfl) (by kernel_rfl)) ?_
 intro W base args ds gs before hval0 hW _ _
 have hval:∀ (j:Nat) t v,Tryz.f4.params[j]? = some t->args[j]? = some v->Value.okWide Tryz.prog W .any base t v:=hval0
 have hW':=hW
 obtain ⟨p,q,hA0,hV,rfl,hfz,hnd⟩:=hW
 have hA:DataW.TrodAll enc Tryz.prog W 0 (fun _=>true) true Tryz.f4.params.toList args.toList ds p:=hA0
 have hA1:=hA
 rw [Tryz.params4] at hA hval
 obtain ⟨v0,v1,d0,d1,p0,p1,rfl,rfl,rfl,h0,h1⟩:=trodAll_two hA
 obtain ⟨rfl,rfl⟩:=trodVars_none hV
 obtain ⟨W0,g,rfl,hgc,hg⟩:=Zs (hval 0 35 v0 rfl rfl) h0
 obtain ⟨l,ws,G,rfl,hl,hw⟩:=Wy (hval 1 48 v1 rfl rfl) h1
 simp only [List.append_nil] at hW' hA1
 exact Aa5 Tryz.laidOut (by kernel_rfl) rfl Tryz.underlying4 rfl rfl hW' hA1 (WP hg hgc hl hw)
theorem SA:(Rows.nightPresentRow.inPlace == Tryz.prog.inPlace Bv)=true:=by kernel_rfl
theorem Sc:(Rows.nightPresentRow.unfollowed == Tryz.prog.unfollowed Bv)=true:=by kernel_rfl
theorem R3:(Rows.nightPresentRow.recurses == Tryz.prog.recurses Bv)=true:=by kernel_rfl
theorem RU:(Rows.nightPresentRow.named == Tryz.prog.varsNamed Bv)=true:=by kernel_rfl
theorem Nv:joinedFacts Tryz.prog Bv Tryz.f4 Rows.nightPresentSpec Rows.nightPresentRow=true:=by
 unfold joinedFacts
 refine BK (BK (BK (BK (BK (BK (BK (BK (BK (BK (BK (BK (BK (BK (BK (BK (BK (BK (BK (BK (BK (BK (BK (BK (BK (BK (BK (BK (BK (BK (BK ?_ Tryz.laidOut) Acc) ?_) ?_) ?_) AbW) ?_) Aaa) SA) Sc) R3) RU) ?_) ?_) ?_) ?_) ?_) ?_) ?_) ?_) ?_) Z6) ?_) Aax) Aa8) Ac0) Ab5) ?_) ?_) ?_) ?_
 all_goals kernel_rfl
theorem nightPresent_holds:Rows.NightPresentSaid :=
 OpenClaim.holds_of_wide Bv Tryz.f4 rfl rfl rfl rfl rfl rfl rfl ⟨rfl,rfl,rfl,rfl,rfl⟩ rfl rfl rfl rfl rfl (by kernel_rfl) Tryz.func4 Nv
  (of_decide_eq_true (by kernel_rfl)) (by unfold Func.isWrapper; rw [if_neg (of_decide_eq_false (by kernel_rfl))]; exact ⟨rfl,rfl⟩)
  (fun os started H enc _=>TI os started H enc)
end Go.Proofs.YthhadkggldcolaaGreat
