/- Trimmed by wip/trim.py to what this claim rests on. -/
import Derived.Test.YthhadkggldcolaaGreatYNf1
import Derived.Test.YthhadkggldcolaaGreatYNe5
import Derived.Test.YthhadkggldcolaaGreatYB18
namespace Go.Proofs.YthhadkggldcolaaGreat
open Go.RowKit
section
variable {σ:Hp} {W:GaW} {g:Gal} {l:SL} {ws:Nat->SL} {G:List Grp}
end
end Go.Proofs.YthhadkggldcolaaGreat
namespace Go.Proofs.YthhadkggldcolaaGreat
open Go.RowKit
section
variable {σ:Hp} {W:GaW} {g:Gal} {l:SL} {ws:Nat->SL} {G:List Grp}
theorem Wl (h:GaR σ W g) (he:EvR σ W.r g.B l ws G):Ae Tryz.prog Py #[W.v g,l.v] σ fun v σ'=>v=.bool (W3 g||T6 g.B G)/\σ'=σ:=by
 refine Mk _ _ _ _ _ _ _ _ _ _ _ _ _ _ _ _ _ _ _ _ _ _ _ _ _ _ _ _ _ _ _ _ _ _ _ _ _ ?_
 unfold Fg
 refine clB Na (Zt h) (Cq (fun e=>Ak ⟨?_,rfl⟩) (fun e=>clB MY (AaN (w:=g.w) he) (Ak ⟨?_,rfl⟩)))
 ·rw [e];rfl
 ·rw [e];rfl
theorem P7 (he:EvR σ W.r g.B l ws G) (hG:G.length<=4294967296) (hW:∀ k,(h:k<G.length)->G[k].wants.length<=4294967296):Ae Tryz.prog PN #[l.v] σ fun v σ'=>∃ (l':SL) (ws':Nat->SL),v=l'.v/\Hp.Sub σ σ'/\∀ {r:SL} {B:List BthG},RdS sB σ' r.A r.n (B.map Lo)->EvR σ' r B l' ws' G:=by
 refine MT _ _ _ _ _ ?_
 unfold Ge
 refine AS Hz (RJ he hG hW) ?_
 rintro v σ2 ⟨l',ws',rfl,hs,h1,h2⟩
 exact ⟨_,_,_,rfl,Ak ⟨l',ws',rfl,hs,fun hr=>⟨hr,h1,h2⟩⟩⟩
end
end Go.Proofs.YthhadkggldcolaaGreat
namespace Go.Proofs.YthhadkggldcolaaGreat
open Go.RowKit
theorem RdS.vix {σ:Hp} {A:Option Addr} {n:Nat} {xs:List Vis} (h:RdS sV σ A n xs) {i:Nat} (hi:i<xs.length) {x:Vis} (e:xs[i]=x) {K:Nat->Nat->Prop}
  (hk:∀ b o,σ.cell? ⟨b,o,none⟩=some (.int .i64 x.1)->σ.cell? ⟨b,o+1,none⟩=some (.int .i64 x.2.1)->σ.cell? ⟨b,o+2,none⟩=some (.int .i64 x.2.2.1)->σ.cell? ⟨b,o+3,none⟩=some (.bool x.2.2.2.1)->σ.cell? ⟨b,o+4,none⟩=some (.int .i64 x.2.2.2.2.1)->σ.cell? ⟨b,o+5,none⟩=some (.int .i64 x.2.2.2.2.2)->K b o):ix A n i 6 K:=by
 subst e
 have hk':((i:Nat):Int).toNat<(xs:List (TyR sV)).length:=by rw [Int.toNat_natCast];exact hi
 refine DX (ss:=sV) h rfl (by omega) hk' fun b o hc=>?_
 exact hk b o (hc 0 (by show 0<6;omega)) (hc 1 (by show 1<6;omega)) (hc 2 (by show 2<6;omega)) (hc 3 (by show 3<6;omega)) (hc 4 (by show 4<6;omega)) (hc 5 (by show 5<6;omega))
theorem Aj.st1V {σ σ' τ:Hp} {A:Option Addr} {n c:Nat} {xs:List Vis} (h:Aj 59 sV σ A n c xs σ') (hs:Hp.Sub σ' τ) {b off i j:Nat} {v:Value} {x r:Vis} (hA:A=some ⟨b,off,none⟩) (hi:i<xs.length) (e:xs[i]=x) (hr:setR sV x j v=some r) {K:Hp->Prop}
  (hk:∀ σ2 τ2,Aj 59 sV σ A n c (xs.set i r) σ2->Hp.Sub σ2 τ2->K τ2):st τ b (off+i*6+j) v K:=by
 subst e
 obtain ⟨b',off',hA',hp⟩:=Aj.put (ss:=sV) h hs hi
 rw [hA] at hA'
 cases hA'
 obtain ⟨w1,σ2,w2,w3⟩:=hp j v r hr
 have e1:off+(i*sV.length+j)=off+i*6+j:=by show off+(i*6+j)=_;omega
 rw [e1] at w1 w3
 exact ⟨w1,hk _ _ w2 w3⟩
section
variable {σ:Hp} {w:Int} {r l:SL} {B:List BthG} {ws:Nat->SL} {G:List Grp}
def vsL (c:Int) (vs:List Vis):List Vis:=if c=0 then vs else []
def VsR (σ:Hp) (c:Int) (vs:List Vis):Value->Hp->Prop:=fun v σ'=>∃ s:SL,v=.tuple #[s.v,.int .i64 c]/\Hp.Sub σ σ'/\RdS sV σ' s.A s.n (vsL c vs)
def VsO (σ:Hp) (c:Int) (vs:List Vis):Value->Hp->Prop:=fun v σ'=>∃ (s:SL) (σ1:Hp),v=.tuple #[s.v,.int .i64 c]/\Hp.Sub σ σ1/\Aj 59 sV σ1 s.A s.n s.c (vsL c vs) σ'
theorem VsO.err {c:Int} {vs:List Vis} (h:¬ c=0):VsO σ c vs (.tuple #[.slice none 0 0,.int .i64 c]) σ:=⟨⟨none,0,0⟩,σ,rfl,Hp.Sub.refl _,by rw [vsL,if_neg h];exact Aj.nil 59 sV σ⟩
theorem VsO.ok {σ1 σ':Hp} {s:SL} {vs:List Vis} (hs:Hp.Sub σ σ1) (h:Aj 59 sV σ1 s.A s.n s.c vs σ'):VsO σ 0 vs (.tuple #[s.v,.int .i64 0]) σ':=⟨s,σ1,rfl,hs,by rw [vsL,if_pos rfl];exact h⟩
theorem VsO.toR {c:Int} {vs:List Vis} {v:Value} {σ':Hp}:VsO σ c vs v σ'->VsR σ c vs v σ':=fun ⟨s,_,e,hs,ho⟩=>⟨s,e,hs.trans ho.sub,ho.rd⟩
theorem Ap.visR {W:NW} {σ0:Hp} {N:Ngt} (h:Ap W σ0 σ N):∃ (v:SL) (σ1:Hp),σ W.nb=some (.cells (Hd W N v) 139 (0,0),true)/\Aj 59 sV σ1 v.A v.n v.c N.visits σ/\Hp.Sub σ0 σ1:=by
 obtain ⟨σ3,h1,h2⟩:=h
 obtain ⟨σ1,h3,h4⟩:=MZ (k:=0) BZ (by simp [BD]) h1
 obtain ⟨σ1',h5,h6⟩:=Aw.core.junk h4 h2
 obtain ⟨v,σ4,h7,h8⟩:=h5
 refine ⟨v,σ4,h8.sub _ _ h7.get,h8,?_⟩
 have a1:Hp.Sub σ0 σ1:=Aw.sub (Aw.star fun R hR=>BZ R (List.mem_of_mem_eraseIdx hR)) h3
 exact (a1.trans h6).trans (Aw.blk.sub h7)
theorem U4 (hr:EvR σ r B l ws G):Ae Tryz.prog Nw #[.agg #[r.v,.int .i64 w],l.v] σ (VsO σ (Ha w B G) (Ngt.played w B G).visits):=by
 refine Pf _ _ _ _ _ _ _ _ _ ?_
 unfold IJ
 refine clI B6 (PA hr) (Cq (fun hc=>?_) (fun hc=>?_))
 ·exact Ak (VsO.err (by simpa using hc))
 ·have hc:Ha w B G=0:=by simpa using hc
  have hv:=CT hc
  rw [hc]
  have hpl:=PZ hr hv
  generalize Ngt.played w B G=N at *
  refine AS F6 hpl ?_
  rintro _ τ ⟨W,σ1,rfl,hs,hS,ht⟩
  obtain ⟨v,σ4,hb,ho,hs1⟩:=ht.visR
  exact ⟨_,rfl,AF (Bw hb rfl (Ak (VsO.ok (s:=v) (hs.trans hs1) ho)))⟩
theorem Z5 (hr:EvR σ r B l ws G):Ae Tryz.prog Nw #[.agg #[r.v,.int .i64 w],l.v] σ (VsR σ (Ha w B G) (Ngt.played w B G).visits):=(U4 hr).mono fun _ _ h=>h.toR
end
end Go.Proofs.YthhadkggldcolaaGreat
namespace Go.Proofs.YthhadkggldcolaaGreat
open Go.RowKit
section
variable {σ:Hp} {W:GaW} {g:Gal} {l:SL} {ws:Nat->SL} {G:List Grp}
theorem UC {w:Int} {B:List BthG} {G:List Grp} (hv:Val w B G):(Ngt.played w B G).visits.length<=600/\∀ v∈(Ngt.played w B G).visits,0<=v.1/\v.1<G.length/\0<=v.2.1/\v.2.1<(wn G v.1).length:=by
 obtain ⟨pl,h1,h2,h3,_⟩:=LN hv 4001 (Nat.le_refl _)
 rw [LE]
 have hp:=B4 vle (Ngt.run w B G 4001).visits
 refine ⟨by rw [show (LI (Ngt.run w B G 4001).visits).length=_ from hp.length_eq];exact h1.vlen hv h2,fun v hm=>?_⟩
 obtain ⟨a1,a2,a3,a4,_⟩:=h2.vk v (hp.mem_iff.1 hm)
 have hr:=(h1.gr v.1 a1 a2).w1
 rw [← (Ngt.run w B G 4001).pa_wish] at a4
 exact ⟨a1,a2,a3,by omega⟩
def Gal.tell (g:Gal) (G:List Grp) (v:Vis):Vis:=(v.1,gt (wis g.open (wn G v.1)) v.2.1,v.2.2)
def Gal.tellK (g:Gal) (G:List Grp) (V:List Vis) (k:Nat):List Vis:=(V.take k).map (g.tell G)++V.drop k
theorem N9 {V:List Vis} {k:Nat}:(g.tellK G V k).length=V.length:=by
 unfold Gal.tellK
 rw [List.length_append,List.length_map,List.length_take,List.length_drop];omega
theorem YN {V:List Vis}:g.tellK G V 0=V:=by simp [Gal.tellK]
theorem V3 {V:List Vis}:g.tellK G V V.length=V.map (g.tell G):=by simp [Gal.tellK]
theorem TI {V:List Vis} {k:Nat} (h:k<V.length) (h':k<(g.tellK G V k).length):(g.tellK G V k)[k]=V[k]:=by
 have e:(g.tellK G V k)[k]? = V[k]? := by
  unfold Gal.tellK
  have e1:((V.take k).map (g.tell G)).length=k:=by simp;omega
  rw [List.getElem?_append_right (by omega),e1,Nat.sub_self,List.getElem?_drop,Nat.add_zero]
 rw [List.getElem?_eq_getElem h',List.getElem?_eq_getElem h] at e
 exact Option.some.inj e
theorem V7 {V:List Vis} {k:Nat} (h:k<V.length):(g.tellK G V k).set k (g.tell G V[k])=g.tellK G V (k+1):=by
 unfold Gal.tellK
 have e:((V.take k).map (g.tell G)).length=k:=by simp;omega
 rw [List.set_append_right _ _ (by omega),e,Nat.sub_self,List.drop_eq_getElem_cons h,List.set_cons_zero,List.take_succ_eq_append_getElem h,List.map_append]
 simp
def Gal.vis (g:Gal) (G:List Grp):List Vis:=(Ngt.played g.w g.B (g.red G)).visits.map (g.tell G)
def Gal.plays (g:Gal) (G:List Grp):List Vis:=if g.chkG G=0 then g.vis G else []
theorem Tb {G:List Grp} {i:Int} (h0:0<=i) (h1:i<G.length):wn G i=(G[i.toNat]'(by omega)).wants:=by
 unfold wn
 simp [List.getD,show i.toNat<G.length by omega]
theorem Zz {i:Int} (h0:0<=i) (h1:i<G.length):(wn (g.red G) i).length=(wis g.open (wn G i)).length:=by
 rw [Tb h0 (by rw [Gal.red_len];exact h1),Tb h0 h1]
 have:(g.red G)[i.toNat]'(by rw [Gal.red_len];omega)=Ux g.open (G[i.toNat]'(by omega)):=List.getElem_map ..
 rw [this]
 exact Kl
def VnR (σ:Hp) (vs:List Vis) (c:Int):Value->Hp->Prop:=fun v σ'=>∃ s:SL,v=.tuple #[s.v,.int .i64 c]/\Hp.Sub σ σ'/\RdS sV σ' s.A s.n vs
theorem VnR.err (h:¬ g.chkG G=0):VnR σ (g.plays G) (g.chkG G) (.tuple #[.slice none 0 0,.int .i64 (g.chkG G)]) σ:=⟨⟨none,0,0⟩,rfl,Hp.Sub.refl _,by
 have:g.plays G=[]:=if_neg h
 rw [this]
 exact (Aj.nil 59 sV σ).rd⟩
theorem Yl {σ1 σ' τ:Hp} {A:Option Addr} {n c:Nat} {V:List Vis} {k:Nat} {K:Hp->Prop} (h:Aj 59 sV σ1 A n c (g.tellK G V k) σ') (hs:Hp.Sub σ' τ) (hk:k<V.length)
  (hK:∀ σ2 τ2,Aj 59 sV σ1 A n c (g.tellK G V (k+1)) σ2->Hp.Sub σ2 τ2->K τ2):ix A n (k:Nat) 6 fun b a=>st τ b (a+1) (.int .i64 (gt (wis g.open (wn G V[k].1)) V[k].2.1)) K:=by
 have hl:k<(g.tellK G V k).length:=by rw [N9];exact hk
 obtain ⟨b,off,hA,_⟩:=Aj.someA (ss:=sV) h (show 0<List.length (g.tellK G V k) by omega)
 have hn:n=(g.tellK G V k).length:=h.len
 refine AaM hA (by omega) (by omega) ?_
 simp only [Int.toNat_natCast]
 refine h.st1V hs (j:=1) (r:=g.tell G V[k]) hA hl (TI hk hl) rfl fun σ2 τ2 h2 s2=>hK σ2 τ2 ?_ s2
 rw [V7 hk] at h2
 exact h2
set_option maxRecDepth 100000 in
theorem Yu (h:GaR σ W g) (he:EvR σ W.r g.B l ws G):Ae Tryz.prog Rq #[W.v g,l.v] σ (VnR σ (g.plays G) (g.chkG G)):=by
 refine Pk _ _ _ _ _ _ _ _ _ _ _ _ _ _ _ _ _ _ _ _ _ _ _ _ _ _ _ _ _ _ _ _ _ _ _ _ _ ?_
 unfold IR
 refine AS FC (Ts h he) ?_
 rintro v σ2 (⟨e,rfl,rfl⟩ | ⟨e,b,ps,P,rfl,hs2,hN⟩)
 ·exact ⟨_,_,rfl,BA (fun _=>Ak (VnR.err e)) (fun e2=>absurd e2 e)⟩
 obtain ⟨hg,hq⟩:=Gal.chkG_ok e
 have hv:=CT hq
 have hn60:=hv.n
 have hrd:=Gal.red_chk hq
 have hPl:=hN.pa.1
 have hvr:=CT hrd
 have epl:g.plays G=g.vis G:=if_pos e
 rw [epl,e]
 refine ⟨_,_,rfl,BA (fun e2=>absurd rfl e2) (fun _=>AF (Bw hN.b rfl (Be hN.b rfl ?_)))⟩
 refine AS Ch (QT hN (h.r.sub hs2) (by omega)) ?_
 rintro v σ10 ⟨s,ws',rfl,hs10,he10⟩
 refine ⟨_,_,_,rfl,hs10,?_⟩
 refine AS F4 (U4 (w:=g.w) he10) ?_
 rintro v σ13 ⟨s13,σ1,rfl,hs1,ho⟩
 rw [hrd] at ho ⊢
 have evl:vsL 0 (Ngt.played g.w g.B (g.red G)).visits=(Ngt.played g.w g.B (g.red G)).visits:=if_pos rfl
 rw [evl] at ho
 obtain ⟨hvl,hvin⟩:=UC hvr
 have evi:g.vis G=(Ngt.played g.w g.B (g.red G)).visits.map (g.tell G):=rfl
 rw [evi]
 clear evl evi epl
 generalize (Ngt.played g.w g.B (g.red G)).visits=V at *
 refine ⟨_,_,_,_,rfl,Ag fun J18 h18=>?_⟩
 refine ⟨fun q i τ=>∃ (k:Nat) (σ':Hp),q=V.length-k/\i=k/\k<=V.length/\Aj 59 sV σ1 s13.A s13.n s13.c (g.tellK G V k) σ'/\Hp.Sub σ' τ,⟨_,0,σ13,rfl,rfl,by omega,by rw [YN];exact ho,Hp.Sub.refl _⟩,?_⟩
 rintro q i τ ⟨k,σ',rfl,rfl,hk,hown,hs'⟩ _
 have hn13:s13.n=V.length:=by rw [hown.len];exact N9
 have hlk:(g.tellK G V k).length=V.length:=N9
 refine AD (fun hlt=>?_) (fun hlt=>?_)
 ·have hkl:k<V.length:=by omega
  obtain ⟨a1,a2,a3,a4⟩:=hvin V[k] (List.getElem_mem hkl)
  rw [Gal.red_len] at a2
  rw [Zz a1 a2] at a4
  have hNτ:=hN.sub (hs10.trans (hs1.trans (hown.sub.trans hs')))
  refine RdS.vix (hown.rd.sub hs') (by omega) (TI hkl (by omega)) fun b1 o1 c0 c1 c2 c3 c4 c5=>AP c0 (AP c1 (AP c2 (NM c3 (AP c4 (AP c5 ?_)))))
  refine AF (Bw hNτ.b rfl ?_)
  have hi:V[k].1.toNat<P.length:=by omega
  refine DX (ss:=sN) hNτ.ps rfl a1 hi fun b2 o2 hc2=>NT (hc2 5 (by decide)) ?_
  have hp:=(hNτ.pa.2 V[k].1.toNat (by omega) hi).v
  rw [← Tb a1 a2] at hp
  refine GP hp a3 a4 (Yl hown hs' hkl fun σ3 τ3 h3 s3=>?_)
  exact AU (by omega) (Bf _ (by omega) ⟨k+1,σ3,rfl,by omega,by omega,h3,s3⟩)
 ·obtain rfl:k=V.length:=by omega
  rw [h18]
  intro _
  rw [V3] at hown
  exact Ak ⟨s13,rfl,hs2.trans (hs10.trans (hs1.trans (hown.sub.trans hs'))),hown.rd.sub hs'⟩
theorem VW:(g.plays G).length<=600:=by
 unfold Gal.plays
 split
 ·rename_i e
  unfold Gal.vis
  rw [List.length_map]
  exact (UC (CT (Gal.red_chk (Gal.chkG_ok e).2))).1
 ·exact Nat.zero_le _
theorem Wk {A A':Option Addr} {n n' c c':Nat} {xs ys:List Vis} (h:RdS sV σ A n xs) (h':RdS sV σ A' n' ys) (hl:xs.length<=4294967296) (he:xs=ys):Ae Tryz.prog L1 #[.slice A n c,.slice A' n' c'] σ fun v σ'=>v=.bool true/\σ'=σ:=by
 subst he
 refine JR _ _ _ _ _ _ _ _ ?_
 unfold DN
 have hn:n=xs.length:=h.1
 have hn':n'=xs.length:=h'.1
 refine Cq (fun e=>?_) (fun e=>?_)
 ·have e:¬ (n:Int)=n':=by simpa using e
  exact absurd (by rw [hn,hn']) e
 ·refine Ag fun J3 h3=>?_
  refine ⟨fun m i τ=>∃ k:Nat,m=xs.length-k/\i=k/\k<=xs.length/\τ=σ,⟨_,0,rfl,rfl,by omega,rfl⟩,?_⟩
  rintro m i τ ⟨k,rfl,rfl,hk,rfl⟩ _
  refine AD (fun hlt=>?_) (fun hlt=>?_)
  ·have hkl:k<xs.length:=by omega
   refine h.vix hkl rfl fun b o c0 c1 c2 c3 c4 c5=>AP c0 (AP c1 (AP c2 (NM c3 (AP c4 (AP c5 ?_)))))
   refine h'.vix hkl rfl fun b o c0 c1 c2 c3 c4 c5=>AP c0 (AP c1 (AP c2 (NM c3 (AP c4 (AP c5 ?_)))))
   refine Cq (fun e2=>?_) (fun e2=>?_)
   ·simp at e2
   ·exact AU (by omega) (Bf _ (by omega) ⟨k+1,rfl,by omega,by omega,rfl⟩)
  ·rw [h3]
   intro _
   exact Ak ⟨rfl,rfl⟩
end
end Go.Proofs.YthhadkggldcolaaGreat
