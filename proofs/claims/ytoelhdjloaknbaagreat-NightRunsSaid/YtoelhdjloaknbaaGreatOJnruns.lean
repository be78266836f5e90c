/- Trimmed by wip/trim.py to what this claim rests on. -/
import Derived.Test.YtoelhdjloaknbaaGreatOKn3
import Derived.Test.YtoelhdjloaknbaaGreatONq4
import Derived.Test.YtoelhdjloaknbaaGreatONf1
import Derived.Test.YtoelhdjloaknbaaGreatOW1
namespace Go.Proofs.YtoelhdjloaknbaaGreat
set_option maxRecDepth 100000
open Go.RowKit Go.ChangeShapes Go.WideShapes Go.Deep Go.Joins
section
variable {σ:Hp} {W:GaW} {g:Gal}
theorem XK {g:Gal} {ws:List Int} {i:Nat}:(g.runA ws i).length<=ws.length:=by
 unfold Gal.runA
 split
 ·exact Rx _
 ·exact Nat.zero_le _
theorem AbG {τ:Hp} {A:Option Addr} {n:Nat} {xs:List (Int×Int)} {i:Nat} {K:Int->Int->Prop} (h:RdS s22 τ A n xs) (hn:i<xs.length) (hk:K xs[i].1 xs[i].2):
  ix A n (i:Nat) 2 fun b a=>ldI τ .i64 b a fun x=>ldI τ .i64 b (a+1) fun y=>K x y:=by
 refine CT (ss:=s22) h rfl (by omega) (by rw [Int.toNat_natCast];exact hn) fun b o hc=>?_
 exact Bq (hc 0 (by decide)) (Bq (hc 1 (by decide)) hk)
theorem ZD {wA:Option Addr} {wn wc:Nat} {ws:List Int} (h:GaR σ W g) (hc:W.e.n<=W.e.c) (hw:RdS [.int .i64] σ wA wn ws):Ad Tryz.prog BA #[W.v g,.slice wA wn wc] σ fun v _=>v=.bool true:=by
 refine K4 _ _ _ _ _ _ _ _ _ _ _ _ _ _ _ _ _ _ _ _ _ _ _ _ _ _ _ _ _ _ _ _ _ _ _ _ _ ?_
 unfold Eu
 have hwn:=hw.lenI
 refine Ab fun J3 h3=>Ab fun J85 h85=>?_
 have k85:J85 true σ:=by
  rw [h85]
  intro _
  exact Acm (PS (Ag rfl))
 refine clB Ob (Ab3 h) (B0 (fun _=>k85) (fun hf=>?_))
 have hn:=Aby hf
 have hB:=hn.B
 rw [h85]
 intro _
 refine AA (fun _=>PS (Ag rfl)) (fun a1=>?_)
 rw [h3]
 intro _
 clear h3 h85 k85
 refine Bg M6 (Abd h hn) ?_
 rintro v σ5 ⟨Q,rfl,hs5,hq⟩
 refine ⟨_,_,_,_,_,_,_,_,_,_,_,_,_,_,_,_,_,_,_,_,_,_,_,_,_,_,_,_,_,_,_,_,rfl,?_⟩
 refine ⟨ws,hw.sub hs5,Be (by show 0+ws.length<=_;omega) ?_⟩
 intro A21 n21 c21 σ22 ho
 have hr22:RdS [.int .i64] σ22 A21 n21 ws:=ho.RdI
 have hs22:=ho.sub
 refine Bg NO (AaM (hq.sub hs22) hr22 (by omega)) ?_
 rintro v σ24 ⟨s,ys,rfl,hs24,hys⟩
 refine ⟨_,_,_,_,rfl,?_⟩
 have hs:=hs5.trans (hs22.trans hs24)
 refine Bg NE (Abq (h.sub hs) (by omega) hc (hw.sub hs) (by omega)) ?_
 rintro v σ28 ⟨s2,zs,rfl,hs28,hzs⟩
 refine ⟨_,_,_,_,rfl,Ab fun J33 h33=>Ab fun J81 h81=>?_⟩
 have hlen:s.n=s2.n:=by
  by_cases e1:g.runE ws=0
  ·have h1:=(hys.1 e1).1.1
   have h2:=(hzs.1 e1).1.1
   exact h1.trans ((hys.1 e1).2.1.trans ((hzs.1 e1).2.1.symm.trans h2.symm))
  ·rw [hys.2 e1,hzs.2 e1]
 have k81:J81 false σ28:=by
  rw [h81]
  intro _
  refine AbC ?_
  rw [h33]
  intro _
  refine Ab fun J36 h36=>?_
  have k36:J36 σ28:=by
   rw [h36]
   intro _
   exact PS (Ag rfl)
  clear h36
  refine ⟨fun q i τ=>∃ k:Nat,q=s.n-k/\i=k/\k<=s.n/\τ=σ28,⟨_,0,rfl,rfl,by omega,rfl⟩,?_⟩
  rintro q i τ ⟨k,rfl,rfl,hk,rfl⟩ _
  refine AA (fun hlt=>?_) (fun _=>k36)
  have hkl:k<s.n:=by omega
  have e1:g.runE ws=0:=by
   by_cases e1:g.runE ws=0
   ·exact e1
   ·have:=hys.2 e1
    omega
  obtain ⟨hy1,hy2,hy3⟩:=hys.1 e1
  obtain ⟨hz1,hz2,hz3⟩:=hzs.1 e1
  have hy1:=hy1.sub hs28
  have hyn:s.n=ys.length:=hy1.1
  have hzn:s2.n=zs.length:=hz1.1
  have hyk:=(hy3 k (by omega)).sub hs28
  have hzk:=hz3 k (by omega)
  have hy4:ys[k].2.1=(g.runA ws k).length:=hyk.1
  have hz4:zs[k].2.1=(g.runA ws k).length:=hzk.1
  have hra:=XK (g:=g) (ws:=ws) (i:=k)
  have hky:((k:Nat):Int).toNat<ys.length:=by rw [Int.toNat_natCast];omega
  have hkz:((k:Nat):Int).toNat<zs.length:=by rw [Int.toNat_natCast];omega
  refine Ab fun J47 h47=>?_
  have k47:J47 τ:=by
   rw [h47]
   intro _
   exact AL (by omega) (A0 _ (by omega) ⟨k+1,rfl,by omega,by omega,rfl⟩)
  clear h47
  have iy:∀ (w:Nat) {K:Option Addr->Nat->Nat->Prop},w=1->K ys[k].1 ys[k].2.1 ys[k].2.2->ix s.A s.n (k:Nat) w fun b a=>ldS τ b a K:=by
   rintro w K rfl hK
   refine CT (ss:=[.slc]) hy1 rfl (by omega) hky fun b o hcl=>RJ (hcl 0 (by decide)) ?_
   simp only [Int.toNat_natCast]
   exact hK
  have iz:∀ (w:Nat) {K:Option Addr->Nat->Nat->Prop},w=1->K zs[k].1 zs[k].2.1 zs[k].2.2->ix s2.A s2.n (k:Nat) w fun b a=>ldS τ b a K:=by
   rintro w K rfl hK
   refine CT (ss:=[.slc]) hz1 rfl (by omega) hkz fun b o hcl=>RJ (hcl 0 (by decide)) ?_
   simp only [Int.toNat_natCast]
   exact hK
  refine iy 1 rfl (iz 1 rfl (Bi (fun a=>absurd (by omega) a) (fun _=>?_)))
  refine ⟨fun q i τ'=>∃ j:Nat,q=(g.runA ws k).length-j/\i=j/\j<=(g.runA ws k).length/\τ'=τ,⟨_,0,rfl,rfl,by omega,rfl⟩,?_⟩
  rintro q i τ' ⟨j,rfl,rfl,hj,rfl⟩ _
  refine iy 1 rfl (AA (fun hlt2=>?_) (fun _=>k47))
  have hjl:j<(g.runA ws k).length:=by omega
  refine iy 1 rfl (AbG hyk hjl (iz 1 rfl (AbG hzk hjl ?_)))
  rw [show (!(decide ((g.runA ws k)[j].1=(g.runA ws k)[j].1)&&decide ((g.runA ws k)[j].2=(g.runA ws k)[j].2)))=false by simp]
  exact AbC (AL (by omega) (A0 _ (by omega) ⟨j+1,rfl,by omega,by omega,rfl⟩))
 refine Bi (fun a=>absurd (by omega) a) (fun _=>?_)
 rw [show (!decide (g.runE ws=g.runE ws))=false by simp]
 exact k81
end
theorem Vc (os:Os) (started:os.Started) (H:Type) (enc:TypeId×Value->H):
  ReturnsInHanded {} Tryz.checked os BA .any (Rows.nightRunsSpec.pre6 enc Tryz.prog Tryz.f3 Rows.nightRunsRow.domain false) (Rows.nightRunsSpec.post enc Tryz.prog Tryz.f3 false true false false):=by
 refine returnsInHanded_of_change (C:=Tryz.checked) Tryz.own started (by kernel_rfl) Tryz.func3
  (ChangeSpec.witness6 (enc:=enc) (C:=Tryz.checked) false ⟨#[],#[.agg #[.slice none 0 0,.int .i64 0,.slice none 0 0,.slice none 0 0,.slice none 0 0,.slice none 0 0,.int .i64 0,.slice none 0 0,.slice none 0 0,.int .i64 0,.int .i64 0,.int .i64 0,.slice none 0 0,.slice none 0 0],.slice none 0 0],[]⟩ 8 (by kernel_rfl) (by kernel_rfl) (by kernel_rfl) (by kernel_rfl)) ?_
 intro W base args ds gs before hval0 hW _ _
 have hval:∀ (j:Nat) t v,Tryz.f3.params[j]? = some t->args[j]? = some v->Value.okWide Tryz.prog W .any base t v:=hval0
 have hW':=hW
 obtain ⟨p,q,hA0,hV,rfl,hfz,hnd⟩:=hW
 have hA:DataW.TrodAll enc Tryz.prog W 0 (fun _=>true) true Tryz.f3.params.toList args.toList ds p:=hA0
 have hA1:=hA
 rw [Tryz.params3] at hA hval
 obtain ⟨v0,v1,d0,d1,p0,p1,rfl,rfl,rfl,h0,h1⟩:=trodAll_two hA
 obtain ⟨rfl,rfl⟩:=trodVars_none hV
 obtain ⟨W0,g,rfl,hgc,hg⟩:=XP (hval 0 35 v0 rfl rfl) h0
 obtain ⟨xA,xn,xc,xs,rfl,hxc,hxs⟩:=V8 (hval 1 26 v1 rfl rfl) h1
 simp only [List.append_nil] at hW' hA1
 exact Y0 Tryz.laidOut (by kernel_rfl) rfl Tryz.underlying4 rfl rfl hW' hA1 (ZD hg hgc hxs)
theorem TD:(Rows.nightRunsRow.inPlace==Tryz.prog.inPlace BA)=true:=by kernel_rfl
theorem T2:(Rows.nightRunsRow.unfollowed==Tryz.prog.unfollowed BA)=true:=by kernel_rfl
theorem Uc:(Rows.nightRunsRow.recurses==Tryz.prog.recurses BA)=true:=by kernel_rfl
theorem Tx:(Rows.nightRunsRow.named==Tryz.prog.varsNamed BA)=true:=by kernel_rfl
theorem PD:joinedFacts Tryz.prog BA Tryz.f3 Rows.nightRunsSpec Rows.nightRunsRow=true:=by
 unfold joinedFacts
 refine BD (BD (BD (BD (BD (BD (BD (BD (BD (BD (BD (BD (BD (BD (BD (BD (BD (BD (BD (BD (BD (BD (BD (BD (BD (BD (BD (BD (BD (BD (BD ?_ Tryz.laidOut) AaP) ?_) ?_) ?_) Zx) ?_) Aax) TD) T2) Uc) Tx) ?_) ?_) ?_) ?_) ?_) ?_) ?_) ?_) ?_) YC) ?_) Zq) Z8) AbD) AaY) ?_) ?_) ?_) ?_
 all_goals kernel_rfl
theorem nightRuns_holds:Rows.NightRunsSaid:=
 OpenClaim.holds_of_wide BA Tryz.f3 rfl rfl rfl rfl rfl rfl rfl ⟨rfl,rfl,rfl,rfl,rfl⟩ rfl rfl rfl rfl rfl (by kernel_rfl) Tryz.func3 PD
  (of_decide_eq_true (by kernel_rfl)) (by unfold Func.isWrapper;rw [if_neg (of_decide_eq_false (by kernel_rfl))];exact ⟨rfl,rfl⟩)
  (fun os started H enc _=>Vc os started H enc)
end Go.Proofs.YtoelhdjloaknbaaGreat
