/- Trimmed by wip/trim.py to what this claim rests on. -/
import Derived.Test.YtoelhdjloaknbaaGreatPKn1
import Derived.Test.YtoelhdjloaknbaaGreatPNm7
import Derived.Test.YtoelhdjloaknbaaGreatPNf1
import Derived.Test.YtoelhdjloaknbaaGreatPW1
namespace Go.Proofs.YtoelhdjloaknbaaGreat
set_option maxRecDepth 100000
open Go.RowKit Go.ChangeShapes Go.WideShapes Go.Deep Go.Joins
section
variable {σ:Hp}
theorem Aab (R:List Rp):(mtL R).length<=61:=by
 unfold mtL
 split
 ·rename_i h
  have h60:R.length<=60:=by
   unfold mtE at h
   split at h
   ·omega
   ·omega
  have:=(R1 R R.length).2
  rw [QP]
  omega
 ·simp
theorem SK {A:Option Addr} {n c:Nat} {R:List Rp} (hR:RdS sRp σ A n R) (_:n<=c):Ad Tryz.prog AY #[.slice A n c] σ fun v _=>v=.bool true:=by
 refine Ip _ _ _ _ _ ?_
 unfold CQ
 have hn:n=R.length:=hR.1
 refine AF (fun _=>RA (Ak rfl)) (fun a=>⟨R,hR,Bg (by show 0+R.length<=_;omega) ?_⟩)
 intro A5 n5 c5 σ6 ho
 have hr6:RdS sRp σ6 A5 n5 R:=Aj.rd ho
 refine AW Lx (Yu (L:=⟨A5,n5,c5⟩) hr6) ?_
 rintro v σ8 ⟨s,rfl,hs8,h8⟩
 refine ⟨_,_,_,_,rfl,?_⟩
 refine AW LD (X5 (L:=⟨A,n,c⟩) (hR.sub (ho.sub.trans hs8))) ?_
 rintro v σ12 ⟨s2,rfl,hs12,h12⟩
 refine ⟨_,_,_,_,rfl,Ae fun J17 h17=>Ae fun J44 h44=>?_⟩
 have h8:=h8.sub hs12
 have e1:s.n=(mtL R).length:=h8.1
 have e2:s2.n=(mtL R).length:=h12.1
 have hle:=Aab R
 have k44:J44 false σ12:=by
  rw [h44]
  intro _
  refine YY ?_
  rw [h17]
  intro _
  refine Ae fun J20 h20=>?_
  refine ⟨fun q i τ=>∃ k:Nat,q=(mtL R).length-k/\i=k/\k<=(mtL R).length/\τ=σ12,⟨_,0,rfl,rfl,by omega,rfl⟩,?_⟩
  rintro q i τ ⟨k,rfl,rfl,hk,rfl⟩ _
  refine AF (fun hlt=>?_) (fun _=>?_)
  ·have hkl:k<(mtL R).length:=by omega
   refine Hm h8 hkl (Hm h12 hkl ?_)
   simp only [decide_true,Bool.and_self,Bool.not_true]
   exact YY (AR (by omega) (AV _ (by omega) ⟨k+1,rfl,by omega,by omega,rfl⟩))
  ·rw [h20]
   intro _
   exact RA (Ak rfl)
 refine B0 (fun x=>absurd (by omega) x) (fun _=>?_)
 rw [show (!decide (mtE R=mtE R))=false by simp]
 exact k44
end
theorem P5 (os:Os) (started:os.Started) (H:Type) (enc:TypeId×Value->H):
  ReturnsInHanded {} Tryz.checked os AY .any (Rows.nightMatchesSpec.pre6 enc Tryz.prog Tryz.f4 Rows.nightMatchesRow.domain false) (Rows.nightMatchesSpec.post enc Tryz.prog Tryz.f4 false true false false):=by
 refine returnsInHanded_of_change (C:=Tryz.checked) Tryz.own started (by kernel_rfl) Tryz.func4
  (ChangeSpec.witness6 (enc:=enc) (C:=Tryz.checked) false ⟨#[],#[.slice none 0 0],[]⟩ 8 (by kernel_rfl) (by kernel_rfl) (by kernel_rfl) (by kernel_rfl)) ?_
 intro W base args ds gs before hval0 hW _ _
 have hval:∀ (j:Nat) t v,Tryz.f4.params[j]? = some t->args[j]? = some v->Value.okWide Tryz.prog W .any base t v:=hval0
 have hW':=hW
 obtain ⟨p,q,hA0,hV,rfl,hfz,hnd⟩:=hW
 have hA:DataW.TrodAll enc Tryz.prog W 0 (fun _=>true) true Tryz.f4.params.toList args.toList ds p:=hA0
 have hA1:=hA
 rw [Tryz.params4] at hA hval
 obtain ⟨v0,d0,rfl,rfl,h0⟩:=trodAll_one hA
 obtain ⟨rfl,rfl⟩:=trodVars_none hV
 obtain ⟨rA,rn,rc,rs,rfl,hrc,hrs⟩:=RP (hval 0 46 v0 rfl rfl) h0
 simp only [List.append_nil] at hW' hA1
 exact W3 Tryz.laidOut (by kernel_rfl) rfl Tryz.underlying4 rfl rfl hW' hA1 (SK hrs hrc)
theorem PK:(Rows.nightMatchesRow.inPlace==Tryz.prog.inPlace AY)=true:=by kernel_rfl
theorem Po:(Rows.nightMatchesRow.unfollowed==Tryz.prog.unfollowed AY)=true:=by kernel_rfl
theorem PE:(Rows.nightMatchesRow.recurses==Tryz.prog.recurses AY)=true:=by kernel_rfl
theorem Pj:(Rows.nightMatchesRow.named==Tryz.prog.varsNamed AY)=true:=by kernel_rfl
theorem LU:joinedFacts Tryz.prog AY Tryz.f4 Rows.nightMatchesSpec Rows.nightMatchesRow=true:=by
 unfold joinedFacts
 refine Bm (Bm (Bm (Bm (Bm (Bm (Bm (Bm (Bm (Bm (Bm (Bm (Bm (Bm (Bm (Bm (Bm (Bm (Bm (Bm (Bm (Bm (Bm (Bm (Bm (Bm (Bm (Bm (Bm (Bm (Bm ?_ Tryz.laidOut) Zm) ?_) ?_) ?_) Xm) ?_) XI) PK) Po) PE) Pj) ?_) ?_) ?_) ?_) ?_) ?_) ?_) ?_) ?_) Ym) ?_) XA) Xi) YO) Y8) ?_) ?_) ?_) ?_
 all_goals kernel_rfl
theorem nightMatches_holds:Rows.NightMatchesSaid:=
 OpenClaim.holds_of_wide AY Tryz.f4 rfl rfl rfl rfl rfl rfl rfl ⟨rfl,rfl,rfl,rfl,rfl⟩ rfl rfl rfl rfl rfl (by kernel_rfl) Tryz.func4 LU
  (of_decide_eq_true (by kernel_rfl)) (by unfold Func.isWrapper;rw [if_neg (of_decide_eq_false (by kernel_rfl))];exact ⟨rfl,rfl⟩)
  (fun os started H enc _=>P5 os started H enc)
end Go.Proofs.YtoelhdjloaknbaaGreat
