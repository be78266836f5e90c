/- Trimmed by wip/trim.py to what this claim rests on. -/
import Derived.Test.YthhadkggldcolaaGreatOKn1
import Derived.Test.YthhadkggldcolaaGreatONe5
import Derived.Test.YthhadkggldcolaaGreatONf1
namespace Go.Proofs.YthhadkggldcolaaGreat
set_option maxRecDepth 100000
open Go.RowKit Go.ChangeShapes Go.WideShapes Go.Deep Go.Joins
theorem Gal.open_from {g:Gal} {k:Nat}:∃ l',l'.Sublist (g.rel.drop k)∧g.open=(g.opS k).2++l':=by
 obtain ⟨l',h1,h2⟩:=TU (S:=g.S) (g.rel.drop k) (g.opS k)
 refine ⟨l',h1,?_⟩
 rw [← h2]
 unfold Gal.open Gal.opS
 rw [List.take_length,← List.foldl_append,List.take_append_drop]
theorem CJ.rel_sorted {g:Gal} (h:CJ g):g.rel.Pairwise (· < ·):=by
 unfold Gal.rel
 rw [show g.b.relD g.es g.day=JF g.b (Bok.upE g.es g.day) g.day g.b.I.length from if_pos h.dayE]
 exact Qc _ _ _ _
theorem CJ.next {g:Gal} (h:CJ g) {k:Nat} (hk:k < g.rel.length):((g.S.fits ((Ns (g.opS k).1 g.rel[k].toNat:Nat):Int)).2.1=decide ((g.opS k).2.length < g.open.length∧gt g.open ((g.opS k).2.length:Nat)=g.rel[k]))∧(g.opS k).2.length≤g.open.length:=by
 obtain ⟨l1,h1,h2⟩:=g.open_from (k:=k + 1)
 have hle:(g.opS k).2.length≤g.open.length:=by
  obtain ⟨l0,_,h0⟩:=g.open_from (k:=k)
  rw [h0,List.length_append]; omega
 refine ⟨?_,hle⟩
 rw [Gal.opS_succ hk] at h2
 unfold opF at h2
 cases e:(g.S.fits ((Ns (g.opS k).1 g.rel[k].toNat:Nat):Int)).2.1 with
 | true =>
  rw [e,if_pos rfl] at h2
  symm
  refine decide_eq_true ?_
  have:g.open=(g.opS k).2++g.rel[k]::l1:=by rw [h2]; simp
  rw [this]
  refine ⟨by simp,Um⟩
 | false =>
  rw [e,if_neg (by decide)] at h2
  symm
  refine decide_eq_false ?_
  rintro ⟨a1,a2⟩
  rw [h2,List.length_append] at a1
  have hl1:0 < l1.length:=by omega
  have a3:gt g.open ((g.opS k).2.length:Nat)=l1[0]:=by
   obtain ⟨y,ys,rfl⟩:∃ y ys,l1=y::ys:=by
    cases l1 with
    | nil=>exact absurd hl1 (by decide)
    | cons y ys=>exact ⟨y,ys,rfl⟩
   rw [h2]
   exact Um
  rw [a3] at a2
  have hm:=h1.subset (List.getElem_mem hl1)
  rw [a2] at hm
  obtain ⟨j,hj,hj2⟩:=List.mem_iff_getElem.1 hm
  rw [List.getElem_drop] at hj2
  have hs:=(List.pairwise_iff_getElem.1 h.rel_sorted) k (k + 1 + j) hk (by rw [List.length_drop] at hj; omega) (by omega)
  omega
theorem XP {σ:Hp} {W:GaW} {g:Gal} (h:GaR σ W g) (hc:W.e.n≤W.e.c):Ad Tryz.prog Bq #[W.v g] σ fun v _=>v=.bool true:=by
 refine Kn _ _ _ _ _ _ _ _ _ _ _ _ _ _ _ _ _ _ _ _ _ _ _ _ _ _ _ _ _ _ _ _ _ _ ?_
 unfold DO
 refine clB OK (Abn h) (BY (fun _=>Pn (Ag rfl)) (fun hf=>?_))
 have hn:=Aab hf
 have hB:=hn.B
 refine Bb MY (ZP h hn) ?_
 rintro v σ8 ⟨Q,rfl,hs8,hq⟩
 refine ⟨_,_,_,_,_,_,_,_,_,_,_,_,_,_,_,_,_,_,_,_,_,_,_,_,_,_,_,_,_,_,_,_,rfl,?_⟩
 refine Bb FV (UA hq) ?_
 rintro v σ24 ⟨A25,n25,c25,rfl,ho25⟩
 have hs24:=ho25.sub
 have hr25:RdS [.int .i64] σ24 A25 n25 g.opn:=ho25.RdI
 clear ho25
 refine ⟨_,_,_,_,rfl,?_⟩
 refine Bb LT (YM (h.sub (hs8.trans hs24)) (by omega) hc) ?_
 rintro v σ28 ⟨A29,n29,c29,rfl,ho29⟩
 have hs28:=ho29.sub
 have hr29:RdS [.int .i64] σ28 A29 n29 g.opn:=ho29.RdI
 have hr25:=hr25.sub hs28
 clear ho29
 have h28:=h.sub (hs8.trans (hs24.trans hs28))
 have hq28:=hq.sub (hs24.trans hs28)
 have hol:g.opn.length≤10:=by
  unfold Gal.opn
  split
  ·rename_i e
   exact Nat.le_trans (Gal.chk_ok e).open_len hB
  ·exact Nat.zero_le _
 refine ⟨_,_,_,_,rfl,Ab fun J33 h33=>?_⟩
 have k33:J33 σ28:=by
  rw [h33]
  intro _
  refine Bc (fun _=>Pn (Ag rfl)) (fun e=>?_)
  have hg:=Gal.chk_ok e
  have eo:g.opn=g.open:=if_pos e
  rw [eo] at hr25 hol
  refine Bb DA (RI (day:=g.day) hq28.k) ?_
  rintro v σ38 ⟨A39,n39,c39,rfl,ho39⟩
  have hs38:=ho39.sub
  have hr39:RdS [.int .i64] σ38 A39 n39 g.rel:=ho39.RdI
  have hr25:=hr25.sub hs38
  have hq38:=hq28.sub hs38
  clear ho39
  rw [show g.b.dayE g.es g.day=0 from hg.dayE]
  have hn39:=hr39.lenI
  have hn25:=hr25.lenI
  have hrl:=hg.rel_len
  refine ⟨_,_,_,_,rfl,Bc (fun a=>absurd rfl a) (fun _=>Ab fun J43 h43=>?_)⟩
  refine ⟨fun q m a i τ=>∃ k:Nat,q=g.rel.length - k∧m=((g.opS k).1:Nat)∧a=((g.opS k).2.length:Nat)∧i=k∧k≤g.rel.length∧τ=σ38,⟨_,0,rfl,rfl,rfl,rfl,by omega,rfl⟩,?_⟩
  rintro q m a i τ ⟨k,rfl,rfl,rfl,rfl,hk,rfl⟩ _
  refine AF (fun hlt=>?_) (fun hlt=>?_)
  ·have hkl:k < g.rel.length:=by omega
   have hr:=hg.rel_in (List.getElem_mem hkl)
   have hsucc:=Gal.opS_succ hkl
   obtain ⟨hnx,hle⟩:=hg.next hkl
   have hrn:=h.rn
   refine Ab fun J57 h57=>Ab fun J65 h65=>Ab fun J97 h97=>?_
   have k57:J57 ((g.opS (k + 1)).1:Nat) ((g.opS (k + 1)).2.length:Nat) τ:=by
    rw [h57]
    intro _
    exact AM (by omega) (AZ _ (by omega) ⟨k + 1,rfl,rfl,rfl,by omega,by omega,rfl⟩)
   rw [hsucc] at k57
   have hlt1:=hg.set_lt k hk
   have hS:=Sup.ok_spec hg.s
   have hnl:=hS.nl
   have hgk:gt g.rel (k:Nat)=g.rel[k]:=Cb hkl
   have k65:J65 τ:=by
    rw [h65]
    intro _
    refine DB hr39 (by omega) (by omega) ?_
    rw [hgk]
    generalize g.rel[k]=r at *
    generalize g.opS k=s at *
    obtain ⟨j,rfl⟩:∃ j:Nat,r=j:=⟨r.toNat,by omega⟩
    have hj:j≤30:=by omega
    have e1:=NO (n:=j) (by omega)
    have e2:=Lb hj
    have e0:0 < 2 ^ j:=Nat.pow_pos (by omega)
    have h62:s.1 < 2 ^ 62:=Nat.lt_of_lt_of_le hlt1 (Nat.pow_le_pow_right (by omega) (by omega))
    have hj62:2 ^ j < 2 ^ 62:=Nat.pow_lt_pow_right (by omega) (by omega)
    have e3:=V2 h62 hj62
    have hlt2:Ns s.1 j < 2 ^ g.S.L.length:=Rc hlt1 (by rw [hg.nL]; omega)
    have hp20:=Lb (n:=g.S.L.length) (by omega)
    have e4:((s.1 ||| 2 ^ j:Nat):Int)=((Ns s.1 j:Nat):Int):=rfl
    have hfe:=hg.fits_e hlt2
    rw [Int.toNat_natCast] at hnx
    refine Rh (by omega) ⟨by omega,?_⟩
    rw [e1]
    refine AM (by omega) ?_
    rw [e3,e4]
    refine AM (by omega) ?_
    refine Bb GU (Zv hq38.s) ?_
    rintro v τ' ⟨rfl,rfl⟩
    refine ⟨_,_,_,rfl,Ab fun J79 h79=>?_⟩
    have k79:∀ t,t=(g.S.fits ((Ns s.1 j:Nat):Int)).2.1→J79 t τ':=by
     rintro t rfl
     rw [h79]
     intro _
     refine Ab fun J83 h83=>Ab fun J87 h87=>?_
     have k87:J87 false τ':=by
      rw [h87]
      intro _
      refine Aa2 ?_
      rw [h83]
      intro _
      unfold opF at k57
      rw [Int.toNat_natCast] at k57
      refine BY (fun e5=>AM (by omega) ?_) (fun e5=>?_)
      ·rw [if_pos e5] at k57
       have:((s.2++[((j:Nat):Int)]).length:Nat)=s.2.length + 1:=by simp
       rw [this] at k57
       exact k57
      ·rw [if_neg (by rw [e5]; decide)] at k57
       exact k57
     refine Bc (fun a=>absurd hfe a) (fun _=>?_)
     rw [show (!((g.S.fits ((Ns s.1 j:Nat):Int)).2.1 == (g.S.fits ((Ns s.1 j:Nat):Int)).2.1))=false by simp]
     exact k87
    refine AF (fun a=>DB hr25 (by omega) (by omega) (DB hr39 (by omega) (by omega) ?_)) (fun a=>k79 _ ?_)
    ·rw [hgk]
     refine k79 _ ?_
     rw [hnx]
     exact decide_eq_decide.2 ⟨fun x=>⟨by omega,x⟩,fun x=>x.2⟩
    ·rw [hnx]
     symm
     exact decide_eq_false fun x=>a (by omega)
   have k97:∀ t,t=false→J97 t τ:=by
    rintro t rfl
    rw [h97]
    intro _
    exact Aa2 k65
   refine DB hr39 (by omega) (by omega) (AF (fun a=>?_) (fun a=>DB hr39 (by omega) (by omega) (k97 _ ?_)))
   ·rw [hgk] at a; omega
   ·rw [hgk]
    exact decide_eq_false (by omega)
  ·obtain rfl:k=g.rel.length:=by omega
   rw [h43]
   intro _
   refine AF (fun _=>Pn (Ag rfl)) (fun a=>absurd ?_ a)
   rw [hn25]
   rfl
 clear h33
 refine Ab fun J107 h107=>?_
 have k107:J107 false σ28:=by
  rw [h107]
  intro _
  exact Aa2 k33
 have hck:Ad Tryz.prog Mz #[Q.v g] σ28 fun v σ'=>v=.int .i64 g.chk∧σ'=σ28:=Rn hq28
 refine AaI Dg hck (clI FS (UI h28 (by omega) hc) (Bc (fun a=>absurd rfl a) (fun _=>?_)))
 refine clB JR (Xd hr25 hr29 (by omega)) ?_
 rw [decide_eq_true (rfl:g.opn=g.opn)]
 refine AaX ?_
 rw [show (!decide (g.chk=g.chk))=false by simp]
 exact k107
theorem Tk (os:Os) (started:os.Started) (H:Type) (enc:TypeId×Value→H) :
  ReturnsInHanded {} Tryz.checked os Bq .any (Rows.nightOpensSpec.pre6 enc Tryz.prog Tryz.f3 Rows.nightOpensRow.domain false) (Rows.nightOpensSpec.post enc Tryz.prog Tryz.f3 false true false false):=by
 refine returnsInHanded_of_change (C:=Tryz.checked) Tryz.own started (by kernel_rfl) Tryz.func3
  (ChangeSpec.witness6 (enc:=enc) (C:=Tryz.checked) false ⟨#[],#[.agg #[.slice none 0 0,.int .i64 0,.slice none 0 0,.slice none 0 0,.slice none 0 0,.slice none 0 0,.int .i64 0,.slice none 0 0,.slice none 0 0,.int .i64 0,.int .i64 0,.int .i64 0,.slice none 0 0,.slice none 0 0]],[]⟩ 8 (by kernel_rfl) (by kernel_rfl) (by kernel_rfl) (by kernel_rfl)) ?_
 intro W base args ds gs before hval0 hW _ _
 have hval:∀ (j:Nat) t v,Tryz.f3.params[j]? = some t→args[j]? = some v→Value.okWide Tryz.prog W .any base t v:=hval0
 have hW':=hW
 obtain ⟨p,q,hA0,hV,rfl,hfz,hnd⟩:=hW
 have hA:DataW.TrodAll enc Tryz.prog W 0 (fun _=>true) true Tryz.f3.params.toList args.toList ds p:=hA0
 have hA1:=hA
 rw [Tryz.params3] at hA hval
 obtain ⟨v0,d0,rfl,rfl,h0⟩:=trodAll_one hA
 obtain ⟨rfl,rfl⟩:=trodVars_none hV
 obtain ⟨W0,g,rfl,hgc,hg⟩:=XT (hval 0 35 v0 rfl rfl) h0
 simp only [List.append_nil] at hW' hA1
 exact YY Tryz.laidOut (by kernel_rfl) rfl Tryz.underlying4 rfl rfl hW' hA1 (XP hg hgc)
theorem Sy:(Rows.nightOpensRow.inPlace == Tryz.prog.inPlace Bq)=true:=by kernel_rfl
theorem R4:(Rows.nightOpensRow.unfollowed == Tryz.prog.unfollowed Bq)=true:=by kernel_rfl
theorem Sv:(Rows.nightOpensRow.recurses == Tryz.prog.recurses Bq)=true:=by kernel_rfl
theorem Sw:(Rows.nightOpensRow.named == Tryz.prog.varsNamed Bq)=true:=by kernel_rfl
theorem Oj:joinedFacts Tryz.prog Bq Tryz.f3 Rows.nightOpensSpec Rows.nightOpensRow=true:=by
 unfold joinedFacts
 refine BB (BB (BB (BB (BB (BB (BB (BB (BB (BB (BB (BB (BB (BB (BB (BB (BB (BB (BB (BB (BB (BB (BB (BB (BB (BB (BB (BB (BB (BB (BB ?_ Tryz.laidOut) AaA) ?_) ?_) ?_) Y5) ?_) X6) Sy) R4) Sv) Sw) ?_) ?_) ?_) ?_) ?_) ?_) ?_) ?_) ?_) X9) ?_) Zt) Y1) AaF) Aax) ?_) ?_) ?_) ?_
 all_goals kernel_rfl
theorem nightOpens_holds:Rows.NightOpensSaid :=
 OpenClaim.holds_of_wide Bq Tryz.f3 rfl rfl rfl rfl rfl rfl rfl ⟨rfl,rfl,rfl,rfl,rfl⟩ rfl rfl rfl rfl rfl (by kernel_rfl) Tryz.func3 Oj
  (of_decide_eq_true (by kernel_rfl)) (by unfold Func.isWrapper; rw [if_neg (of_decide_eq_false (by kernel_rfl))]; exact ⟨rfl,rfl⟩)
  (fun os started H enc _=>Tk os started H enc)
end Go.Proofs.YthhadkggldcolaaGreat
