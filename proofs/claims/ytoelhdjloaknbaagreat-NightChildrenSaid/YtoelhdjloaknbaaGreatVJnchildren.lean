/- Trimmed by wip/trim.py to what this claim rests on. -/
import Derived.Test.YtoelhdjloaknbaaGreatVKn1
import Derived.Test.YtoelhdjloaknbaaGreatVNm7
import Derived.Test.YtoelhdjloaknbaaGreatVNf1
import Derived.Test.YtoelhdjloaknbaaGreatVW2
namespace Go.Proofs.YtoelhdjloaknbaaGreat
set_option maxRecDepth 100000
open Go.RowKit Go.ChangeShapes Go.WideShapes Go.Deep Go.Joins
section
variable {σ:Hp}
theorem Va {R:List Rp} (h:∀ j,j<R.length->O7 R j=true):∀ (k j:Nat),j<=k->k<R.length->tmR R j<=tmR R k
 | 0,j,hj,_=>by
  obtain rfl:j=0:=by omega
  exact Int.le_refl _
 | k+1,j,hj,hk=>by
  rcases Nat.lt_or_eq_of_le hj with h1 | h1
  ·have h2:=Va h k j (by omega) (by omega)
   have h3:=(Nl (h (k+1) hk)).2.2.1
   rw [VW] at h3
   omega
  ·subst h1
   exact Int.le_refl _
theorem YT {R:List Rp} (h:mtE R=0):R.length<=60/\∀ j,j<R.length->O7 R j=true:=by
 unfold mtE at h
 split at h
 ·omega
 ·split at h
  ·rename_i h1 h2
   exact ⟨by omega,fun j hj=>List.all_eq_true.1 h2 j (List.mem_range.2 hj)⟩
  ·omega
theorem Zm {H:List (Nat×Nat×Int)} {m:Nat} (h:m<H.length):rp (Fu H) m=((H[m].1:Int),(H[m].2.1:Int),H[m].2.2):=by
 rw [Y6 (by rw [M2];exact h)]
 unfold Fu
 rw [List.getElem_map]
theorem W1 {H:List (Nat×Nat×Int)} {xs:List Bool} {n m:Nat} (hl:xs.length=n) (hx:∀ j,j<n->xs.getD j false=gone (H.take m) j) (hm:m<H.length):∀ j,j<n->((xs.set H[m].1 true).set H[m].2.1 true).getD j false=gone (H.take (m+1)) j:=by
 intro j hj
 rw [List.take_succ_eq_append_getElem hm,Qq,Dy,Dy,hx j hj,List.length_set]
 by_cases e1:H[m].2.1=j
 ·rw [if_pos ⟨e1,by omega⟩,e1]
  simp
 ·rw [if_neg (fun x=>e1 x.1)]
  by_cases e2:H[m].1=j
  ·rw [if_pos ⟨e2,by omega⟩,e2]
   simp
  ·rw [if_neg (fun x=>e2 x.1)]
   have h1:(H[m].1==j)=false:=by simpa using e2
   have h2:(H[m].2.1==j)=false:=by simpa using e1
   rw [h1,h2]
   simp
theorem U9 {xs:List Bool} {n:Nat} {i:Nat} {K:Bool->Prop} (hl:xs.length=n) (hi:i<n) (hk:K (xs.getD i false)):0<=((i:Nat):Int)/\((i:Nat):Int)<((xs.length:Nat):Int)/\lat xs ((i:Nat):Int).toNat K:=by
 refine ⟨by omega,by omega,?_⟩
 rw [Int.toNat_natCast]
 refine TD (by omega) ?_
 have e:xs.getD i false=xs[i]'(by omega):=by simp [List.getD,hl,hi]
 rw [e] at hk
 exact hk
theorem RW {A:Option Addr} {n c:Nat} {R:List Rp} (hR:RdS sRp σ A n R) (_:n<=c):Ae Tryz.prog AR #[.slice A n c] σ fun v _=>v=.bool true:=by
 refine Hz _ _ _ _ _ ?_
 unfold Cp
 have hn:n=R.length:=hR.1
 refine AD (fun _=>Oa (Al rfl)) (fun a=>⟨R,hR,Bg (by show 0+R.length<=_;omega) ?_⟩)
 intro A5 n5 c5 σ6 ho
 have hr6:RdS sRp σ6 A5 n5 R:=Ak.rd ho
 refine AU LF (Ym (L:=⟨A5,n5,c5⟩) hr6) ?_
 rintro v σ8 ⟨s,rfl,hs8,h8⟩
 refine ⟨_,_,_,_,rfl,BR (fun _=>Oa (Al rfl)) (fun e0=>⟨by omega,by omega,by omega,Af fun J16 h16=>?_⟩)⟩
 obtain ⟨h60,hall⟩:=YT e0
 have hmk:Uf R:=fun i hi=>(Nl (hall i hi)).2.1
 have hok:W4 (kdR R) (BZ R) (tmR R) R.length (mtF R R.length).2:=(MSt.all (fun j k=>Va hall k j) (k:=R.length) (Nat.le_refl _)).ok
 have hL:mtL R=Fu (mtF R R.length).2:=if_pos e0
 have hHl:=(UW R R.length).2
 rw [hL] at h8
 generalize (mtF R R.length).2=H at *
 have hsn:s.n=H.length:=by rw [← M2];exact h8.1
 have hR8:=hR.sub (ho.sub.trans hs8)
 have k16:J16 σ8:=by
  rw [h16]
  intro _
  exact Oa (Al rfl)
 clear h16
 have hrep:(List.replicate (((n:Nat):Int):Int).toNat false:List Bool)=List.replicate R.length false:=by rw [Int.toNat_natCast,hn]
 rw [hrep]
 refine ⟨fun q i xs τ=>∃ m:Nat,q=H.length-m/\i=m/\m<=H.length/\xs.length=R.length/\(∀ j,j<R.length->xs.getD j false=gone (H.take m) j)/\τ=σ8,⟨_,0,rfl,rfl,by omega,by simp,fun j hj=>by simp [List.getD,hj,gone],rfl⟩,?_⟩
 rintro q i xs τ ⟨m,rfl,rfl,hm,hxl,hx,rfl⟩ _
 refine AD (fun hlt=>?_) (fun _=>k16)
 have hml:m<H.length:=by omega
 have hg:=W1 hxl hx hml
 have hO:=hok m hml
 refine Af fun J28 h28=>IZ h8 (by rw [M2];exact hml) ?_
 rw [Zm hml]
 dsimp only
 have k28:J28 ((xs.set H[m].1 true).set H[m].2.1 true) τ:=by
  rw [h28]
  intro _
  exact AP (by omega) (AW _ (by omega) ⟨m+1,rfl,by omega,by omega,by rw [List.length_set,List.length_set];exact hxl,hg,rfl⟩)
 clear h28 hg
 obtain ⟨⟨c1,c2,c3,c4⟩,⟨a1,a2,a3,a4⟩,hf,hno⟩:=hO
 generalize H[m].1=ch at *
 generalize H[m].2.1=as_ at *
 generalize H[m].2.2=t at *
 refine Af fun J40 h40=>Af fun J148 h148=>?_
 have k40:J40 τ:=by
  rw [h40]
  intro _
  refine Af fun J43 h43=>Af fun J125 h125=>?_
  have k43:J43 τ:=by
   rw [h43]
   intro _
   refine Af fun J46 h46=>?_
   have k46:J46 τ:=by
    rw [h46]
    intro _
    refine U9 hxl c1 ?_
    refine ⟨by omega,by rw [List.length_set];omega,TD (by rw [List.length_set,Int.toNat_natCast];omega) ?_⟩
    simp only [Int.toNat_natCast]
    exact k28
   clear h46 k28
   refine ⟨fun q i τ'=>∃ k:Nat,q=R.length-k/\i=k/\k<=R.length/\τ'=τ,⟨_,0,rfl,rfl,by omega,rfl⟩,?_⟩
   rintro q i τ' ⟨k,rfl,rfl,hk,rfl⟩ _
   refine AD (fun hlt2=>?_) (fun _=>k46)
   have hkl:k<R.length:=by omega
   refine Af fun J56 h56=>Af fun J62 h62=>Af fun J117 h117=>?_
   have k56:J56 τ':=by
    rw [h56]
    intro _
    exact AP (by omega) (AW _ (by omega) ⟨k+1,rfl,by omega,by omega,rfl⟩)
   clear h56
   have k62:gone (H.take m) k=false->¬ k=ch->¬ k=as_->tmR R k<t->J62 τ':=by
    intro e1 e2 e3 e4
    obtain ⟨n1,n2⟩:=hno k hkl e1 e2 e3 e4
    rw [h62]
    intro _
    refine Af fun J65 h65=>?_
    have k65:J65 false τ':=by
     rw [h65]
     intro _
     exact TP k56
    have k65':∀ b,b=false->J65 b τ':=by
     rintro b rfl
     exact k65
    have hF:∀ b:Bool,¬ b=true->b=false:=fun b h=>by cases b<;>first | rfl | exact absurd rfl h
    clear h65 h62
    refine Qc hR8 hkl (AD (fun e4=>IZ hR8 hkl (IZ hR8 a1 (Wi hmk hkl a1 (CW (fun e5=>absurd ⟨e4,e5⟩ n1) (fun e5=>Qc hR8 hkl (AD (fun e6=>?_) (fun _=>k65))))))) (fun _=>Qc hR8 hkl (AD (fun e6=>IZ hR8 c1 (IZ hR8 hkl (Wi hmk c1 hkl (k65' _ (hF _ fun x=>n2 ⟨e6,x⟩))))) (fun _=>k65))))
    rw [e6] at e4
    exact absurd e4 (by decide)
   clear h62
   have k117:∀ b,(b=false->gone (H.take m) k=false/\¬ k=ch/\¬ k=as_/\tmR R k<t)->J117 b τ':=by
    intro b hb
    rw [h117]
    intro _
    exact CW (fun _=>k56) (fun e=>by
     obtain ⟨b1,b2,b3,b4⟩:=hb e
     exact k62 b1 b2 b3 b4)
   clear h117 k62
   refine U9 hxl hkl ?_
   rw [hx k hkl]
   refine CW (fun _=>k117 _ fun x=>(by cases x)) (fun e1=>AD (fun _=>k117 _ fun x=>(by cases x)) (fun e2=>AD (fun _=>k117 _ fun x=>(by cases x)) (fun e3=>Ua hR8 hkl (k117 _ fun x=>⟨e1,by omega,by omega,?_⟩))))
   have x:=of_decide_eq_false x
   omega
  clear h43
  have k125:J125 false τ:=by
   rw [h125]
   intro _
   exact TP k43
  clear h125
  refine IZ hR8 c1 (IZ hR8 a1 (Wi hmk c1 a1 ?_))
  rw [hf]
  refine UJ (Ua hR8 c1 (AD (fun x=>by omega) (fun _=>Ua hR8 a1 ?_)))
  rw [decide_eq_false (by omega)]
  exact k125
 clear h40
 have k148:J148 false τ:=by
  rw [h148]
  intro _
  exact TP k40
 clear h148 k40
 refine AD (fun x=>by omega) (fun _=>AD (fun x=>by omega) (fun _=>AD (fun x=>by omega) (fun _=>AD (fun x=>by omega) (fun _=>U9 hxl c1 ?_))))
 rw [hx _ c1,c4]
 refine TP (U9 hxl a1 ?_)
 rw [hx _ a1,a4]
 refine TP (Qc hR8 c1 ?_)
 rw [c2]
 refine BR (fun x=>absurd rfl x) (fun _=>Qc hR8 a1 ?_)
 rw [a2]
 exact k148
end
theorem Ph (os:Os) (started:os.Started) (H:Type) (enc:TypeId×Value->H):
  ReturnsInHanded {} Tryz.checked os AR .any (Rows.nightChildrenSpec.pre6 enc Tryz.prog Tryz.f5 Rows.nightChildrenRow.domain false) (Rows.nightChildrenSpec.post enc Tryz.prog Tryz.f5 false true false false):=by
 refine returnsInHanded_of_change (C:=Tryz.checked) Tryz.own started (by kernel_rfl) Tryz.func5
  (ChangeSpec.witness6 (enc:=enc) (C:=Tryz.checked) false ⟨#[],#[.slice none 0 0],[]⟩ 8 (by kernel_rfl) (by kernel_rfl) (by kernel_rfl) (by kernel_rfl)) ?_
 intro W base args ds gs before hval0 hW _ _
 have hval:∀ (j:Nat) t v,Tryz.f5.params[j]? = some t->args[j]? = some v->Value.okWide Tryz.prog W .any base t v:=hval0
 have hW':=hW
 obtain ⟨p,q,hA0,hV,rfl,hfz,hnd⟩:=hW
 have hA:DataW.TrodAll enc Tryz.prog W 0 (fun _=>true) true Tryz.f5.params.toList args.toList ds p:=hA0
 have hA1:=hA
 rw [Tryz.params5] at hA hval
 obtain ⟨v0,d0,rfl,rfl,h0⟩:=trodAll_one hA
 obtain ⟨rfl,rfl⟩:=trodVars_none hV
 obtain ⟨rA,rn,rc,rs,rfl,hrc,hrs⟩:=RR (hval 0 46 v0 rfl rfl) h0
 simp only [List.append_nil] at hW' hA1
 exact WD Tryz.laidOut (by kernel_rfl) rfl Tryz.underlying4 rfl rfl hW' hA1 (RW hrs hrc)
theorem N4:(Rows.nightChildrenRow.inPlace==Tryz.prog.inPlace AR)=true:=by kernel_rfl
theorem Oe:(Rows.nightChildrenRow.unfollowed==Tryz.prog.unfollowed AR)=true:=by kernel_rfl
theorem NV:(Rows.nightChildrenRow.recurses==Tryz.prog.recurses AR)=true:=by kernel_rfl
theorem Oh:(Rows.nightChildrenRow.named==Tryz.prog.varsNamed AR)=true:=by kernel_rfl
theorem KO:joinedFacts Tryz.prog AR Tryz.f5 Rows.nightChildrenSpec Rows.nightChildrenRow=true:=by
 unfold joinedFacts
 refine Bh (Bh (Bh (Bh (Bh (Bh (Bh (Bh (Bh (Bh (Bh (Bh (Bh (Bh (Bh (Bh (Bh (Bh (Bh (Bh (Bh (Bh (Bh (Bh (Bh (Bh (Bh (Bh (Bh (Bh (Bh ?_ Tryz.laidOut) Yk) ?_) ?_) ?_) Wm) ?_) WU) N4) Oe) NV) Oh) ?_) ?_) ?_) ?_) ?_) ?_) ?_) ?_) ?_) Wx) ?_) WY) XK) Yi) Ya) ?_) ?_) ?_) ?_
 all_goals kernel_rfl
theorem nightChildren_holds:Rows.NightChildrenSaid:=
 OpenClaim.holds_of_wide AR Tryz.f5 rfl rfl rfl rfl rfl rfl rfl ⟨rfl,rfl,rfl,rfl,rfl⟩ rfl rfl rfl rfl rfl (by kernel_rfl) Tryz.func5 KO
  (of_decide_eq_true (by kernel_rfl)) (by unfold Func.isWrapper;rw [if_neg (of_decide_eq_false (by kernel_rfl))];exact ⟨rfl,rfl⟩)
  (fun os started H enc _=>Ph os started H enc)
end Go.Proofs.YtoelhdjloaknbaaGreat
