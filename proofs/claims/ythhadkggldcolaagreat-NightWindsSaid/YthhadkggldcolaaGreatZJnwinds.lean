/- Trimmed by wip/trim.py to what this claim rests on. -/
import Derived.Test.YthhadkggldcolaaGreatZKn1
import Derived.Test.YthhadkggldcolaaGreatZNq1
import Derived.Test.YthhadkggldcolaaGreatZNf1
import Derived.Test.YthhadkggldcolaaGreatZW2
namespace Go.Proofs.YthhadkggldcolaaGreat
set_option maxRecDepth 100000
open Go.RowKit Go.ChangeShapes Go.WideShapes Go.Deep Go.Joins
theorem Um {g:Gal} {ws:List Int} {i t:Nat} (ht:t<ws.length):K7 (g.runA ws i) (t:Nat)=(decide ((i:Int)∈g.open)&&OD ws (gt g.li (i:Nat)) (gt g.em (i:Nat)) t):=by
 unfold Gal.runA
 by_cases h:(i:Int)∈g.open
 ·rw [if_pos h,Wz ht,decide_eq_true h,Bool.true_and]
 ·rw [if_neg h,decide_eq_false h]
  rfl
theorem TZ {g:Gal} {ws:List Int} {i:Nat}:(g.runA ws i).length<=ws.length:=by
 unfold Gal.runA
 split
 ·exact Sn _
 ·exact Nat.zero_le _
def QW (ws vs:List Int):Prop:=vs.length=ws.length/\∀ j:Nat,j<ws.length->gt vs (j:Nat)<=gt ws (j:Nat)/\(0<=gt ws (j:Nat)->0<=gt vs (j:Nat))
theorem QW.refl {ws:List Int}:QW ws ws:=⟨rfl,fun _ _=>⟨Int.le_refl _,id⟩⟩
theorem Y6 {vs:List Int} {k j:Nat} {x:Int} (hk:k<vs.length):gt (vs.set k x) (j:Nat)=if k=j then x else gt vs (j:Nat):=by
 by_cases e:k=j
 ·subst e
  rw [if_pos rfl,BR (by rw [List.length_set];exact hk)]
  exact List.getElem_set_self _
 ·rw [if_neg e]
  by_cases hj:j<vs.length
  ·rw [BR (by rw [List.length_set];exact hj),BR hj]
   exact List.getElem_set_ne e _
  ·have h1:gt (vs.set k x) (j:Nat)=gt vs (j:Nat):=by
    unfold gt
    simp [List.getD,hj]
   exact h1
theorem QW.put {ws vs:List Int} (h:QW ws vs) {k:Nat} (hk:k<vs.length) {x:Int} (hx:0<=x):QW ws (vs.set k (if x<vs[k] then x else vs[k])):=by
 refine ⟨by rw [List.length_set];exact h.1,fun j hj=>?_⟩
 rw [Y6 hk]
 obtain ⟨a,b⟩:=h.2 j hj
 by_cases e:k=j
 ·subst e
  rw [if_pos rfl,← BR hk]
  refine ⟨by split<;>omega,fun c=>?_⟩
  have:=b c
  split<;>omega
 ·rw [if_neg e]
  exact ⟨a,b⟩
theorem QW.runE {g:Gal} {ws vs:List Int} (h:QW ws vs) (h0:g.runE ws=0):g.runE vs=0:=by
 unfold Gal.runE at h0 ⊢
 split at h0
 ·rename_i e
  rw [if_pos e]
  split at h0
  ·omega
  ·rename_i e1
   rw [if_neg (by rw [h.1];exact e1)]
   split at h0
   ·omega
   ·rename_i e2
    rw [if_neg]
    intro hc
    rw [List.any_eq_true] at hc
    obtain ⟨x,hx,hb⟩:=hc
    obtain ⟨j,hj,rfl⟩:=List.getElem_of_mem hx
    have hj':j<ws.length:=by rw [← h.1];exact hj
    refine e2 (List.any_eq_true.2 ⟨ws[j],List.getElem_mem hj',?_⟩)
    obtain ⟨a,b⟩:=h.2 j hj'
    rw [BR hj,BR hj'] at a b
    unfold Inn at hb ⊢
    rw [Bool.not_eq_true',decide_eq_false_iff_not] at hb ⊢
    intro hc2
    exact hb ⟨b hc2.1,by omega⟩
 ·rename_i e
  exact absurd h0 e
section
variable {σ:Hp} {W:GaW} {g:Gal}
theorem VZ (h:GaR σ W g) (hB:g.B.length<=4294967296) (hc:W.e.n<=W.e.c):Ae Tryz.prog Mc #[W.v g] σ fun v σ'=>v=.int .i64 g.chk/\σ'=σ:=XK h hB hc
theorem WA {wA lA:Option Addr} {wn wc ln lc:Nat} {ws le:List Int} (h:GaR σ W g) (hc:W.e.n<=W.e.c) (hw:RdS [.int .i64] σ wA wn ws) (hl:RdS [.int .i64] σ lA ln le):Ae Tryz.prog Bp #[W.v g,.slice wA wn wc,.slice lA ln lc] σ fun v _=>v=.bool true:=by
 refine Kf _ _ _ _ _ _ _ _ _ _ _ _ _ _ _ _ _ _ _ _ _ _ _ _ _ _ _ _ _ _ _ _ _ _ _ _ _ _ _ _ ?_
 unfold DA
 have hwn:=hw.lenI
 have hln:=hl.lenI
 refine Ac fun J3 h3=>Ac fun J155 h155=>?_
 have k155:J155 true σ:=by
  rw [h155]
  intro _
  exact Abr (Lv (Ah rfl))
 refine clB N9 (AaH h) (B7 (fun _=>k155) (fun hf=>AH (fun _=>k155) (fun a1=>AH (fun _=>k155) (fun a2=>?_))))
 have hn:=Zg hf
 have hB:=hn.B
 refine clI LK (VZ h (by omega) hc) ?_
 rw [h155]
 intro _
 refine Bg (fun _=>Lv (Ah rfl)) (fun e0=>?_)
 have hg:=Gal.chk_ok e0
 have hrn:=h.rn
 rw [h3]
 intro _
 clear h3 h155 k155
 refine Bd My (Zs h hn) ?_
 rintro v σ5 ⟨Q,rfl,hs5,hq⟩
 refine ⟨_,_,_,_,_,_,_,_,_,_,_,_,_,_,_,_,_,_,_,_,_,_,_,_,_,_,_,_,_,_,_,_,rfl,Ac fun J22 h22=>?_⟩
 have k22:∀ (s:SL) (ys:List (Option Addr×Nat×Nat)) τ,Hp.Sub σ5 τ->(g.runE ws=0->RdS [.slc] τ s.A s.n ys/\ys.length=g.B.length/\∀ i,(h:i<ys.length)->RdS s22 τ ys[i].1 ys[i].2.1 (g.runA ws i))->J22 s.A s.n s.c (g.runE ws) τ:=by
  intro s ys τ hsτ hys
  rw [h22]
  intro _
  refine Bg (fun _=>Lv (Ah rfl)) (fun e1=>?_)
  obtain ⟨hy1,hy2,hy3⟩:=hys e1
  have hqτ:=hq.sub hsτ
  have hwτ:=hw.sub (hs5.trans hsτ)
  have hlτ:=hl.sub (hs5.trans hsτ)
  have hsn:s.n=ys.length:=hy1.1
  have hhτ:=h.sub (hs5.trans hsτ)
  refine ⟨ws,hwτ,Bf (by show 0+ws.length<=_;omega) (Ac fun J31 h31=>?_)⟩
  have k31:∀ vs τ1,τ1=τ->QW ws vs->J31 vs τ1:=by
   rintro vs τ1 rfl hv
   rw [h31]
   intro _ A33 n33 c33 σ34 ho
   have hs34:=ho.sub
   have hr34:RdS [.int .i64] σ34 A33 n33 vs:=ho.RdI
   refine Bd Gq (Vr (hqτ.sub hs34) hr34 (by rw [hv.1];omega)) ?_
   rintro v σ36 ⟨s2,zs,rfl,hs36,hzs⟩
   rw [hv.runE e1] at hzs ⊢
   obtain ⟨hz1,hz2,hz3⟩:=hzs rfl
   have hzn:s2.n=zs.length:=hz1.1
   have hss:=hs34.trans hs36
   refine ⟨_,_,_,_,rfl,Ac fun J41 h41=>Ac fun J109 h109=>?_⟩
   have k109:J109 false σ36:=by
    rw [h109]
    intro _
    refine Aav ?_
    rw [h41]
    intro _
    refine Ac fun J44 h44=>?_
    refine ⟨fun q i τ2=>∃ k:Nat,q=g.B.length-k/\i=k/\k<=g.B.length/\τ2=σ36,⟨_,0,rfl,rfl,by omega,rfl⟩,?_⟩
    rintro q i τ2 ⟨k,rfl,rfl,hk,rfl⟩ _
    refine AH (fun hlt=>?_) (fun hlt=>?_)
    ·have hkl:k<g.B.length:=by omega
     have hem2:0<=gt g.em (k:Nat)/\gt g.em (k:Nat)<=100:=hg.em _ (Xr (by rw [hg.nem];omega))
     have hh36:=hhτ.sub hss
     have hw36:=hwτ.sub hss
     have hli:=hg.nli
     have hem:=hg.nem
     refine Ac fun J55 h55=>?_
     refine ⟨fun q i τ5=>∃ t:Nat,q=ws.length-t/\i=t/\t<=ws.length/\τ5=τ2,⟨_,0,rfl,rfl,by omega,rfl⟩,?_⟩
     rintro q i τ5 ⟨t,rfl,rfl,ht,rfl⟩ _
     refine AH (fun hlt2=>?_) (fun hlt2=>?_)
     ·have htl:t<ws.length:=by omega
      refine Ac fun J66 h66=>?_
      have k66:J66 τ5:=by
       rw [h66]
       intro _
       exact AP (by omega) (Bb _ (by omega) ⟨t+1,rfl,by omega,by omega,rfl⟩)
      have hra:=Um (g:=g) (ws:=ws) (i:=k) htl
      have hrb:=Um (g:=g) (ws:=vs) (i:=k) (t:=t) (by rw [hv.1];exact htl)
      have hla:=TZ (g:=g) (ws:=ws) (i:=k)
      have hlb:=TZ (g:=g) (ws:=vs) (i:=k)
      have hvl:=hv.1
      have hky:((k:Nat):Int).toNat<ys.length:=by rw [Int.toNat_natCast];omega
      have hkz:((k:Nat):Int).toNat<zs.length:=by rw [Int.toNat_natCast];omega
      refine C7 (ss:=[.slc]) (hy1.sub hss) rfl (by omega) hky fun b o hcl=>Q5 (hcl 0 (by decide)) ?_
      have hy3k:=(hy3 k (by omega)).sub hss
      simp only [Int.toNat_natCast]
      refine clB Gc (TN (t:=(t:Nat)) hy3k (by omega)) ?_
      rw [hra]
      refine Ba (fun _=>k66) (fun em1=>?_)
      rw [Bool.and_eq_true,decide_eq_true_eq] at em1
      refine C7 (ss:=[.slc]) hz1 rfl (by omega) hkz fun b o hcl=>Q5 (hcl 0 (by decide)) ?_
      have hz3k:=hz3 k (by omega)
      simp only [Int.toNat_natCast]
      refine clB Gc (TN (t:=(t:Nat)) hz3k (by omega)) ?_
      have em2:=Wr hv.1 (fun j hj=>(hv.2 j hj).1) htl hem2.1 em1.2
      rw [hrb,em2,decide_eq_true em1.1]
      refine Ba (fun a=>absurd a (by decide)) (fun _=>?_)
      have hwin:=(Q9 htl hem2.1).1 em1.2
      refine ⟨fun q i τ3=>∃ j:Nat,q=ws.length-j/\i=j/\t<=j/\j<=ws.length/\τ3=τ5,⟨_,t,rfl,rfl,by omega,by omega,rfl⟩,?_⟩
      rintro q i τ3 ⟨j,rfl,rfl,hj1,hj2,rfl⟩ _
      refine Ac fun J89 h89=>Ac fun J101 h101=>?_
      refine AH (fun hlt3=>DC hh36.em (by omega) (by omega) (AP (by omega) ?_)) (fun _=>?_)
      ·have hjl:j<ws.length:=by omega
       rw [h101]
       intro _
       refine AH (fun hlt4=>?_) (fun _=>k66)
       rw [h89]
       intro _
       have:=hwin j hj1 hlt4 hjl
       refine DC hw36 (by omega) (by omega) (DC hh36.li (by omega) (by omega) (AH (fun a=>by omega) (fun _=>?_)))
       exact AP (by omega) (Bb _ (by omega) ⟨j+1,rfl,by omega,by omega,by omega,rfl⟩)
      ·rw [h101]
       intro _
       exact Aav k66
     ·rw [h55]
      intro _
      exact AP (by omega) (Bb _ (by omega) ⟨k+1,rfl,by omega,by omega,rfl⟩)
    ·rw [h44]
     intro _
     exact Lv (Ah rfl)
   refine Bg (fun a=>absurd rfl a) (fun _=>Bg (fun a=>absurd (by omega) a) (fun _=>?_))
   have:(!decide (((s2.n:Nat):Int)=((s.n:Nat):Int)))=false:=by
    rw [decide_eq_true (by omega)]
    rfl
   rw [this]
   exact k109
  refine ⟨fun q i vs τ1=>∃ k:Nat,q=ws.length-k/\i=k/\k<=ws.length/\QW ws vs/\τ1=τ,⟨_,0,rfl,rfl,by omega,QW.refl,rfl⟩,?_⟩
  rintro q i vs τ1 ⟨k,rfl,rfl,hk,hv,rfl⟩ _
  have hvl:=hv.1
  refine Ac fun J119 h119=>Ac fun J137 h137=>?_
  have k137:∀ x,x=decide (k<ws.length/\k<le.length)->J137 x τ1:=by
   rintro x rfl
   rw [h137]
   intro _
   refine AH (fun a=>?_) (fun _=>k31 _ _ rfl hv)
   rw [h119]
   intro _
   refine Ac fun J122 h122=>?_
   have k122:∀ us,QW ws us->J122 us τ1:=by
    intro us hu
    rw [h122]
    intro _
    exact AP (by omega) (Bb _ (by omega) ⟨k+1,rfl,by omega,by omega,hu,rfl⟩)
   refine DC hlτ (by omega) (by omega) (AH (fun b=>?_) (fun _=>k122 _ hv))
   refine ⟨by omega,by omega,⟨by rw [Int.toNat_natCast];omega,DC hlτ (by omega) (by omega) ⟨by omega,by omega,⟨by rw [Int.toNat_natCast];omega,?_⟩⟩⟩⟩
   simp only [Int.toNat_natCast]
   exact k122 _ (hv.put (by omega) b)
  refine AH (fun a=>k137 _ ?_) (fun a=>k137 _ ?_)
  ·exact decide_eq_decide.2 ⟨fun x=>⟨by omega,by omega⟩,fun x=>by omega⟩
  ·symm
   exact decide_eq_false fun x=>a (by omega)
 have hw5:=hw.sub hs5
 have hgo:∃ ys139:List Int,RdS [.int .i64] σ5 wA wn ys139/\Bc (List.length ([]:List Int)+List.length ys139) (exl 3 [.int .i64] (([]:List Int)++ys139) σ5 fun A140 l140 c140 σ141=>
   cl Tryz.prog (.func (.func M5) #[] #[]) #[Q.v g,.slice A140 l140 c140] σ141 fun v142 σ143=>∃ A144:Option Addr,∃ l144 c144:Nat,∃ n145:Int,(v142=.tuple #[.slice A144 l144 c144,.int .i64 n145]/\J22 A144 l144 c144 n145 σ143)):=by
  refine ⟨ws,hw5,Bf (by show 0+ws.length<=_;omega) ?_⟩
  intro A n c σ6 ho
  have hr6:RdS [.int .i64] σ6 A n ws:=ho.RdI
  refine Bd Gq (Vr (hq.sub ho.sub) hr6 (by omega)) ?_
  rintro v σ7 ⟨s,ys,rfl,hs7,hys⟩
  exact ⟨_,_,_,_,rfl,k22 s ys _ (ho.sub.trans hs7) hys⟩
 exact ⟨hgo,hgo⟩
end
theorem SI (os:Os) (started:os.Started) (H:Type) (enc:TypeId×Value->H):
  ReturnsInHanded {} Tryz.checked os Bp .any (Rows.nightWindsSpec.pre6 enc Tryz.prog Tryz.f8 Rows.nightWindsRow.domain false) (Rows.nightWindsSpec.post enc Tryz.prog Tryz.f8 false true false false):=by
 refine returnsInHanded_of_change (C:=Tryz.checked) Tryz.own started (by kernel_rfl) Tryz.func8
  (ChangeSpec.witness6 (enc:=enc) (C:=Tryz.checked) false ⟨#[],#[.agg #[.slice none 0 0,.int .i64 0,.slice none 0 0,.slice none 0 0,.slice none 0 0,.slice none 0 0,.int .i64 0,.slice none 0 0,.slice none 0 0,.int .i64 0,.int .i64 0,.int .i64 0,.slice none 0 0,.slice none 0 0],.slice none 0 0,.slice none 0 0],[]⟩ 8 (by kernel_rfl) (by kernel_rfl) (by kernel_rfl) (by kernel_rfl)) ?_
 intro W base args ds gs before hval0 hW _ _
 have hval:∀ (j:Nat) t v,Tryz.f8.params[j]? = some t->args[j]? = some v->Value.okWide Tryz.prog W .any base t v:=hval0
 have hW':=hW
 obtain ⟨p,q,hA0,hV,rfl,hfz,hnd⟩:=hW
 have hA:DataW.TrodAll enc Tryz.prog W 0 (fun _=>true) true Tryz.f8.params.toList args.toList ds p:=hA0
 have hA1:=hA
 rw [Tryz.params8] at hA hval
 obtain ⟨v0,v1,v2,d0,d1,d2,p0,p1,p2,rfl,rfl,rfl,h0,h1,h2⟩:=trodAll_three hA
 obtain ⟨rfl,rfl⟩:=trodVars_none hV
 obtain ⟨W0,g,rfl,hgc,hg⟩:=WN (hval 0 35 v0 rfl rfl) h0
 obtain ⟨xA,xn,xc,xs,rfl,hxc,hxs⟩:=Qr (hval 1 26 v1 rfl rfl) h1
 obtain ⟨yA,yn,yc,ys,rfl,hyc,hys⟩:=Qr (hval 2 26 v2 rfl rfl) h2
 simp only [List.append_nil] at hW' hA1
 exact X3 Tryz.laidOut (by kernel_rfl) rfl Tryz.underlying4 rfl rfl hW' hA1 (WA hg hgc hxs hys)
theorem Ra:(Rows.nightWindsRow.inPlace==Tryz.prog.inPlace Bp)=true:=by kernel_rfl
theorem Ro:(Rows.nightWindsRow.unfollowed==Tryz.prog.unfollowed Bp)=true:=by kernel_rfl
theorem Rn:(Rows.nightWindsRow.recurses==Tryz.prog.recurses Bp)=true:=by kernel_rfl
theorem Rc:(Rows.nightWindsRow.named==Tryz.prog.varsNamed Bp)=true:=by kernel_rfl
theorem Nz:joinedFacts Tryz.prog Bp Tryz.f8 Rows.nightWindsSpec Rows.nightWindsRow=true:=by
 unfold joinedFacts
 refine Bx (Bx (Bx (Bx (Bx (Bx (Bx (Bx (Bx (Bx (Bx (Bx (Bx (Bx (Bx (Bx (Bx (Bx (Bx (Bx (Bx (Bx (Bx (Bx (Bx (Bx (Bx (Bx (Bx (Bx (Bx ?_ Tryz.laidOut) Zo) ?_) ?_) ?_) XU) ?_) Yl) Ra) Ro) Rn) Rc) ?_) ?_) ?_) ?_) ?_) ?_) ?_) ?_) ?_) Yj) ?_) XW) Yg) ZK) Za) ?_) ?_) ?_) ?_
 all_goals kernel_rfl
theorem nightWinds_holds:Rows.NightWindsSaid:=
 OpenClaim.holds_of_wide Bp Tryz.f8 rfl rfl rfl rfl rfl rfl rfl ⟨rfl,rfl,rfl,rfl,rfl⟩ rfl rfl rfl rfl rfl (by kernel_rfl) Tryz.func8 Nz
  (of_decide_eq_true (by kernel_rfl)) (by unfold Func.isWrapper;rw [if_neg (of_decide_eq_false (by kernel_rfl))];exact ⟨rfl,rfl⟩)
  (fun os started H enc _=>SI os started H enc)
end Go.Proofs.YthhadkggldcolaaGreat
