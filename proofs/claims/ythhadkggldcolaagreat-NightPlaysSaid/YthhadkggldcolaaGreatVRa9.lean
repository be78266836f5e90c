/- Trimmed by wip/trim.py to what this claim rests on. -/
import Derived.Test.YthhadkggldcolaaGreatVB18
import Derived.Test.YthhadkggldcolaaGreatVNo1
namespace Go.Proofs.YthhadkggldcolaaGreat
set_option maxRecDepth 100000
open Go.RowKit
theorem RdS.vix {σ:Hp} {A:Option Addr} {n:Nat} {xs:List Vis} (h:RdS sV σ A n xs) {i:Nat} (hi:i<xs.length) {x:Vis} (e:xs[i]=x) {K:Nat->Nat->Prop}
  (hk:∀ b o,σ.cell? ⟨b,o,none⟩=some (.int .i64 x.1)->σ.cell? ⟨b,o+1,none⟩=some (.int .i64 x.2.1)->σ.cell? ⟨b,o+2,none⟩=some (.int .i64 x.2.2.1)->σ.cell? ⟨b,o+3,none⟩=some (.bool x.2.2.2.1)->σ.cell? ⟨b,o+4,none⟩=some (.int .i64 x.2.2.2.2.1)->σ.cell? ⟨b,o+5,none⟩=some (.int .i64 x.2.2.2.2.2)->K b o):ix A n i 6 K:=by
 subst e
 have hk':((i:Nat):Int).toNat<(xs:List (TyR sV)).length:=by rw [Int.toNat_natCast];exact hi
 refine Da (ss:=sV) h rfl (by omega) hk' fun b o hc=>?_
 exact hk b o (hc 0 (by show 0<6;omega)) (hc 1 (by show 1<6;omega)) (hc 2 (by show 2<6;omega)) (hc 3 (by show 3<6;omega)) (hc 4 (by show 4<6;omega)) (hc 5 (by show 5<6;omega))
theorem Ai.st1V {σ σ' τ:Hp} {A:Option Addr} {n c:Nat} {xs:List Vis} (h:Ai 59 sV σ A n c xs σ') (hs:Hp.Sub σ' τ) {b off i j:Nat} {v:Value} {x r:Vis} (hA:A=some ⟨b,off,none⟩) (hi:i<xs.length) (e:xs[i]=x) (hr:setR sV x j v=some r) {K:Hp->Prop}
  (hk:∀ σ2 τ2,Ai 59 sV σ A n c (xs.set i r) σ2->Hp.Sub σ2 τ2->K τ2):st τ b (off+i*6+j) v K:=by
 subst e
 obtain ⟨b',off',hA',hp⟩:=Ai.put (ss:=sV) h hs hi
 rw [hA] at hA'
 cases hA'
 obtain ⟨w1,σ2,w2,w3⟩:=hp j v r hr
 have e1:off+(i*sV.length+j)=off+i*6+j:=by show off+(i*6+j)=_;omega
 rw [e1] at w1 w3
 exact ⟨w1,hk _ _ w2 w3⟩
theorem Ai.stV {σ σ' τ:Hp} {A:Option Addr} {n c:Nat} {xs:List Vis} (h:Ai 59 sV σ A n c xs σ') (hs:Hp.Sub σ' τ) {i:Nat} (hi:i<xs.length) (y:Vis) {K:Hp->Prop}
  (hk:∀ σ2 τ2,Ai 59 sV σ A n c (xs.set i y) σ2->Hp.Sub σ2 τ2->K τ2):ix A n i 6 fun b a=>st τ b a (.int .i64 y.1) fun τ1=>st τ1 b (a+1) (.int .i64 y.2.1) fun τ2=>st τ2 b (a+2) (.int .i64 y.2.2.1) fun τ3=>st τ3 b (a+3) (.bool y.2.2.2.1) fun τ4=>st τ4 b (a+4) (.int .i64 y.2.2.2.2.1) fun τ5=>st τ5 b (a+5) (.int .i64 y.2.2.2.2.2) K:=by
 obtain ⟨b,off,hA,_⟩:=Ai.someA (ss:=sV) h (show 0<List.length xs by omega)
 have hn:n=xs.length:=h.len
 have hl:∀ r:Vis,i<(xs.set i r).length:=fun r=>by rw [List.length_set];exact hi
 have he:∀ r:Vis,(xs.set i r)[i]'(hl r)=r:=fun r=>List.getElem_set_self _
 refine H6 hA (by omega) (by omega) ?_
 simp only [Int.toNat_natCast]
 refine h.st1V hs (j:=0) (r:=(y.1,xs[i].2)) hA hi rfl rfl fun σ1 τ1 h1 s1=>?_
 refine h1.st1V s1 (j:=1) (r:=(y.1,y.2.1,xs[i].2.2)) hA (hl _) (he _) rfl fun σ2 τ2 h2 s2=>?_
 rw [List.set_set] at h2
 refine h2.st1V s2 (j:=2) (r:=(y.1,y.2.1,y.2.2.1,xs[i].2.2.2)) hA (hl _) (he _) rfl fun σ3 τ3 h3 s3=>?_
 rw [List.set_set] at h3
 refine h3.st1V s3 (j:=3) (r:=(y.1,y.2.1,y.2.2.1,y.2.2.2.1,xs[i].2.2.2.2)) hA (hl _) (he _) rfl fun σ4 τ4 h4 s4=>?_
 rw [List.set_set] at h4
 refine h4.st1V s4 (j:=4) (r:=(y.1,y.2.1,y.2.2.1,y.2.2.2.1,y.2.2.2.2.1,xs[i].2.2.2.2.2)) hA (hl _) (he _) rfl fun σ5 τ5 h5 s5=>?_
 rw [List.set_set] at h5
 refine h5.st1V s5 (j:=5) (r:=y) hA (hl _) (he _) rfl fun σ6 τ6 h6 s6=>?_
 rw [List.set_set] at h6
 exact hk _ _ h6 s6
theorem Ad0 {P Q:List Vis} {x:Vis} (h:(P++Q).Pairwise fun a b=>vle a b=true) (h1:∀ q∈Q,vle x q=true) (h2:∀ a∈P,vle a x=true):(P++x::Q).Pairwise fun a b=>vle a b=true:=by
 rw [List.pairwise_append] at h ⊢
 obtain ⟨a1,a2,a3⟩:=h
 refine ⟨a1,List.pairwise_cons.2 ⟨h1,a2⟩,fun a ha b hb=>?_⟩
 rcases List.mem_cons.1 hb with rfl | hb
 ·exact h2 a ha
 ·exact a3 a ha b hb
theorem Yt {P Q R:List Vis} {p x:Vis} {k:Nat} (hk:P.length+1=k):(((P++[p])++x::(Q++R)).set k p).set (k-1) x=P++x::(p::Q++R):=by
 subst hk
 have e1:((P++[p])++x::(Q++R)).set (P.length+1) p=(P++[p])++p::(Q++R):=by
  rw [List.set_append_right _ _ (by simp)]
  simp
 rw [e1,List.append_assoc,List.set_append_right _ _ (by simp)]
 simp
theorem YD (a b:Vis):(!vle b a)=true↔(a.left<b.left∨a.left=b.left/\(a.1<b.1∨a.1=b.1/\a.2.1<b.2.1)):=by
 rw [Bool.not_eq_true',← Bool.not_eq_true,Nc,Classical.not_not]
section
variable {σ:Hp} {w:Int} {r l:SL} {B:List BthG} {ws:Nat->SL} {G:List Grp}
theorem Abr {a b:Vis}:Af Tryz.prog Th #[.agg #[.int .i64 a.1,.int .i64 a.2.1,.int .i64 a.2.2.1,.bool a.2.2.2.1,.int .i64 a.2.2.2.2.1,.int .i64 a.2.2.2.2.2],.agg #[.int .i64 b.1,.int .i64 b.2.1,.int .i64 b.2.2.1,.bool b.2.2.2.1,.int .i64 b.2.2.2.2.1,.int .i64 b.2.2.2.2.2]] σ fun v σ'=>v=.bool (!vle b a)/\σ'=σ:=by
 refine Ph _ _ _ _ _ _ _ _ _ _ _ _ _ _ ?_
 unfold Hy
 have hb:=YD a b
 have e1:a.left=a.2.2.2.2.2:=rfl
 have e2:b.left=b.2.2.2.2.2:=rfl
 rw [e1,e2] at hb
 have key:∀ t:Bool,(t=true↔(a.2.2.2.2.2<b.2.2.2.2.2∨a.2.2.2.2.2=b.2.2.2.2.2/\(a.1<b.1∨a.1=b.1/\a.2.1<b.2.1)))->t=(!vle b a):=fun t ht=>by
  rw [← hb] at ht
  exact Bool.eq_iff_iff.2 ht
 refine BI (fun h=>?_) (fun h=>BI (fun h'=>?_) (fun h'=>?_))
 ·have h:¬ a.2.2.2.2.2=b.2.2.2.2.2:=by simpa using h
  exact Ah ⟨congrArg Value.bool (key _ (by rw [decide_eq_true_eq];omega)),rfl⟩
 ·have h:a.2.2.2.2.2=b.2.2.2.2.2:=by simpa using h
  have h':¬ a.1=b.1:=by simpa using h'
  exact Ah ⟨congrArg Value.bool (key _ (by rw [decide_eq_true_eq];omega)),rfl⟩
 ·have h:a.2.2.2.2.2=b.2.2.2.2.2:=by simpa using h
  have h':a.1=b.1:=by simpa using h'
  exact Ah ⟨congrArg Value.bool (key _ (by rw [decide_eq_true_eq];omega)),rfl⟩
def vsL (c:Int) (vs:List Vis):List Vis:=if c=0 then vs else []
def VsO (σ:Hp) (c:Int) (vs:List Vis):Value->Hp->Prop:=fun v σ'=>∃ (s:SL) (σ1:Hp),v=.tuple #[s.v,.int .i64 c]/\Hp.Sub σ σ1/\Ai 59 sV σ1 s.A s.n s.c (vsL c vs) σ'
theorem VsO.err {c:Int} {vs:List Vis} (h:¬ c=0):VsO σ c vs (.tuple #[.slice none 0 0,.int .i64 c]) σ:=⟨⟨none,0,0⟩,σ,rfl,Hp.Sub.refl _,by rw [vsL,if_neg h];exact Ai.nil 59 sV σ⟩
theorem VsO.ok {σ1 σ':Hp} {s:SL} {vs:List Vis} (hs:Hp.Sub σ σ1) (h:Ai 59 sV σ1 s.A s.n s.c vs σ'):VsO σ 0 vs (.tuple #[s.v,.int .i64 0]) σ':=⟨s,σ1,rfl,hs,by rw [vsL,if_pos rfl];exact h⟩
theorem Ax.visR {W:NW} {σ0:Hp} {N:Ngt} (h:Ax W σ0 σ N):∃ (v:SL) (σ1:Hp),σ W.nb=some (.cells (Ia W N v) 139 (0,0),true)/\Ai 59 sV σ1 v.A v.n v.c N.visits σ/\Hp.Sub σ0 σ1:=by
 obtain ⟨σ3,h1,h2⟩:=h
 obtain ⟨σ1,h3,h4⟩:=LO (k:=0) Cv (by simp [B4]) h1
 obtain ⟨σ1',h5,h6⟩:=Ar.core.junk h4 h2
 obtain ⟨v,σ4,h7,h8⟩:=h5
 refine ⟨v,σ4,h8.sub _ _ h7.get,h8,?_⟩
 have a1:Hp.Sub σ0 σ1:=Ar.sub (Ar.star fun R hR=>Cv R (List.mem_of_mem_eraseIdx hR)) h3
 exact (a1.trans h6).trans (Ar.blk.sub h7)
theorem AcR (hr:EvR σ r B l ws G):Af Tryz.prog Vu #[.agg #[r.v,.int .i64 w],l.v] σ (VsO σ (Fe w B G) (Ngt.played w B G).visits):=by
 refine Sv _ _ _ _ _ _ _ _ _ ?_
 unfold Kh
 refine clI CB (Tc hr) (BI (fun hc=>?_) (fun hc=>?_))
 ·exact Ah (VsO.err (by simpa using hc))
 ·have hc:Fe w B G=0:=by simpa using hc
  have hv:=Cp hc
  rw [hc]
  have hpl:=Tt hr hv
  generalize Ngt.played w B G=N at *
  refine Be Hu hpl ?_
  rintro _ τ ⟨W,σ1,rfl,hs,hS,ht⟩
  obtain ⟨v,σ4,hb,ho,hs1⟩:=ht.visR
  exact ⟨_,rfl,AD (Bd hb rfl (Ah (VsO.ok (s:=v) (hs.trans hs1) ho)))⟩
theorem AO.visR {W:PW} {σ0:Hp} {S:Pl} (h:AO W σ0 σ S):∃ (v:SL) (σ1:Hp),σ W.pb=some (.cells (UE W S v) 196 (0,0),true)/\Ai 59 sV σ1 v.A v.n v.c S.visits σ/\Hp.Sub σ0 σ1:=by
 obtain ⟨σ3,h1,h2⟩:=h
 obtain ⟨σ1,h3,h4⟩:=LO (k:=0) Dq (by show 0<8;omega) h1
 obtain ⟨σ1',h5,h6⟩:=Ar.coreP.junk h4 h2
 obtain ⟨v,σ4,h7,h8⟩:=h5
 refine ⟨v,σ4,h8.sub _ _ h7.get,h8,?_⟩
 have a1:Hp.Sub σ0 σ1:=Ar.sub (Ar.star fun R hR=>Dq R (List.mem_of_mem_eraseIdx hR)) h3
 exact (a1.trans h6).trans (Ar.blk.sub h7)
set_option maxRecDepth 20000 in
theorem XQ (hr:EvR σ r B l ws G) (hB:B.length<=4294967296) (hG:G.length<=4294967296) (hW:∀ k,(h:k<G.length)->G[k].wants.length<=4294967296):Af Tryz.prog V2 #[.agg #[r.v,.int .i64 w],l.v] σ (VsO σ (Fe w B G) (Ngt.played w B G).visits):=by
 refine S7 _ _ _ _ _ _ _ _ _ ?_
 unfold Kv
 refine clI DA (Oa hr hB hG hW) (BI (fun hc=>?_) (fun hc=>?_))
 ·exact Ah (VsO.err (by simpa using hc))
 ·have hc:Fe w B G=0:=by simpa using hc
  have hv:=Cp hc
  rw [hc]
  obtain ⟨S,sm,_,hpl⟩:=W8 hr hv
  have hvo:=YZ hv
  rw [NV]
  rw [← sm.2.2.2.2] at hvo ⊢
  clear sm
  refine Be MO hpl ?_
  rintro _ τ ⟨W,rfl,hS,ht⟩
  obtain ⟨v,σ1,hb,ho,hs1⟩:=ht.visR
  refine ⟨_,rfl,AD (Bd hb rfl ?_)⟩
  generalize S.visits=V at *
  have hvn:v.n=V.length:=ho.len
  have hvl:=hvo.l
  refine Ad fun J12 h12=>?_
  have k12:∀ τ',Ai 59 sV σ1 v.A v.n v.c (R3 V) τ'->J12 τ':=by
   intro τ' h'
   rw [h12]
   intro _
   exact Ah (VsO.ok (s:=v) hs1 h')
  refine ⟨fun m i τ'=>∃ (k:Nat) (xs:List Vis),m=V.length-k/\i=(k:Int)+1/\k<=V.length/\xs.Perm V/\(xs.take (k+1)).Pairwise (fun a b=>vle a b=true)/\Ai 59 sV σ1 v.A v.n v.c xs τ',⟨_,0,V,rfl,rfl,by omega,List.Perm.refl _,?_,ho⟩,?_⟩
  ·cases V with
   | nil=>exact List.Pairwise.nil
   | cons a V=>simp
  rintro m i τ1 ⟨k,xs,rfl,rfl,hk,hp,hsrt,hxs⟩ _
  have hxl:xs.length=V.length:=hp.length_eq
  refine AA (fun hlt=>?_) (fun hlt=>?_)
  ·have hkl:k+1<xs.length:=by omega
   refine Ad fun J20 h20=>?_
   have k20:∀ (ys:List Vis) τ',ys.Perm V->(ys.take (k+2)).Pairwise (fun a b=>vle a b=true)->Ai 59 sV σ1 v.A v.n v.c ys τ'->J20 τ':=by
    intro ys τ' a1 a2 a3
    rw [h20]
    intro _
    exact AT (by omega) (A0 _ (by omega) ⟨k+1,ys,rfl,by omega,by omega,a1,a2,a3⟩)
   refine ⟨fun m i τ'=>∃ (P Q R:List Vis) (x:Vis),m=P.length/\i=P.length/\P.length+Q.length=k+1/\(P++x::(Q++R)).Perm V/\(P++Q).Pairwise (fun a b=>vle a b=true)/\(∀ q∈Q,vle x q=true)/\Ai 59 sV σ1 v.A v.n v.c (P++x::(Q++R)) τ',⟨_,xs.take (k+1),[],xs.drop (k+2),xs[k+1],rfl,by rw [List.length_take];omega,by rw [List.length_take];simp;omega,?_,by simpa using hsrt,fun q hq=>by simp at hq,?_⟩,?_⟩
   ·have e:xs.take (k+1)++xs[k+1]::([]++xs.drop (k+2))=xs:=by
     rw [List.nil_append,← List.drop_eq_getElem_cons hkl,List.take_append_drop]
    rw [e]
    exact hp
   ·have e:xs.take (k+1)++xs[k+1]::([]++xs.drop (k+2))=xs:=by
     rw [List.nil_append,← List.drop_eq_getElem_cons hkl,List.take_append_drop]
    exact (congrArg (fun z:List Vis=>Ai 59 sV σ1 v.A v.n v.c z τ1) e).mpr hxs
   rintro m i τ2 ⟨P,Q,R,x,rfl,rfl,hpq,hpm,hpw,hq,hown⟩ _
   have hll:(P++x::(Q++R)).length=V.length:=hpm.length_eq
   have hPl:P.length<(P++x::(Q++R)).length:=by simp
   have ex:(P++x::(Q++R))[P.length]=x:=by simp
   have hfin:(∀ a∈P,vle a x=true)->J20 τ2:=by
    intro h
    refine k20 (P++x::(Q++R)) τ2 hpm ?_ hown
    have e:(P++x::(Q++R)).take (k+2)=P++x::Q:=by
     have:P++x::(Q++R)=(P++x::Q)++R:=by simp
     rw [this,List.take_left' (by simp;omega)]
    rw [e]
    exact Ad0 hpw hq h
   rcases List.eq_nil_or_concat P with hP | ⟨P',p,hP⟩
   ·subst hP
    refine Ad fun J31 h31=>?_
    refine Ad fun J71 h71=>?_
    refine AA (fun h0=>absurd h0 (by simp)) (fun _=>?_)
    rw [h71]
    intro _
    exact hfin fun a ha=>by simp at ha
   ·have hP:P=P'++[p]:=by rw [hP];exact List.concat_eq_append ..
    have hPl':P.length=P'.length+1:=by rw [hP];simp
    have hPl2:P'.length<(P++x::(Q++R)).length:=by omega
    have ep:(P++x::(Q++R))[P'.length]=p:=by simp [hP]
    refine Ad fun J31 h31=>?_
    have k31:vle p x=false->J31 τ2:=by
     intro hbf
     rw [h31]
     intro _
     have ei:(P.length:Int)-1=(P'.length:Int):=by omega
     refine AT (by omega) (AT (by omega) ?_)
     rw [ei]
     refine hown.rd.vix hPl2 ep fun b o c0 c1 c2 c3 c4 c5=>AN c0 (AN c1 (AN c2 (ID c3 (AN c4 (AN c5 ?_)))))
     refine hown.rd.vix hPl ex fun b o c0 c1 c2 c3 c4 c5=>AN c0 (AN c1 (AN c2 (ID c3 (AN c4 (AN c5 ?_)))))
     refine Ai.stV hown (Hp.Sub.refl _) hPl p fun σ3 τ3 h3 s3=>?_
     refine Ai.stV h3 s3 (by rw [List.length_set];exact hPl2) x fun σ4 τ4 h4 s4=>?_
     obtain ⟨m,hm⟩:∃ m,m=P'.length:=⟨_,rfl⟩
     refine AT (by omega) ⟨σ4,s4,P'.length,by omega,P',p::Q,R,x,rfl,rfl,by simp;omega,?_,?_,?_,?_⟩
     ·refine List.Perm.trans ?_ hpm
      rw [hP,List.append_assoc]
      refine List.Perm.append_left _ ?_
      exact List.Perm.swap _ _ _
     ·rw [hP,List.append_assoc] at hpw
      exact hpw
     ·intro q hq'
      rcases List.mem_cons.1 hq' with rfl | hq'
      ·rcases Rx x q with h | h
       ·exact h
       ·rw [h] at hbf;cases hbf
      ·exact hq q hq'
     ·have e:((P++x::(Q++R)).set P.length p).set P'.length x=P'++x::(p::Q++R):=by
       have:=Yt (P:=P') (Q:=Q) (R:=R) (p:=p) (x:=x) (k:=P.length) (by omega)
       rw [← hP] at this
       have e2:P.length-1=P'.length:=by omega
       rw [e2] at this
       exact this
      exact (congrArg (fun z:List Vis=>Ai 59 sV σ1 v.A v.n v.c z σ4) e).mp h4
    refine Ad fun J71 h71=>?_
    have k71:J71 (!vle p x) τ2:=by
     rw [h71]
     intro _
     refine BI (fun hb=>k31 (by simpa using hb)) (fun hb=>hfin fun a ha=>?_)
     have hb:vle p x=true:=by simpa using hb
     rw [hP] at ha
     rcases List.mem_append.1 ha with ha | ha
     ·have hpw':(P'++[p]).Pairwise (fun a b=>vle a b=true):=by
       rw [hP] at hpw
       exact hpw.sublist (List.sublist_append_left ..)
      have:=(List.pairwise_append.1 hpw').2.2 a ha p (by simp)
      exact QG _ _ _ this hb
     ·rw [List.mem_singleton] at ha
      subst ha
      exact hb
    refine AA (fun h0=>?_) (fun h0=>absurd (show (0:Int)<(P.length:Int) by omega) h0)
    refine hown.rd.vix hPl ex fun b o c0 c1 c2 c3 c4 c5=>AN c0 (AN c1 (AN c2 (ID c3 (AN c4 (AN c5 ?_)))))
    have ei:(P.length:Int)-1=(P'.length:Int):=by omega
    refine AT (by omega) ?_
    rw [ei]
    refine hown.rd.vix hPl2 ep fun b o c0 c1 c2 c3 c4 c5=>AN c0 (AN c1 (AN c2 (ID c3 (AN c4 (AN c5 ?_)))))
    exact clB Mp Abr k71
  ·have hk1:V.length<=k+1:=by omega
   rw [List.take_of_length_le (by omega)] at hsrt
   have e:xs=R3 V:=Hj (R:=fun a b=>vle a b=true) (hp.trans (Cz vle V).symm) hsrt (EP QG Rx V) fun a ha b hb h1 h2=>by
    rw [Nc] at h1 h2
    exact hvo.u a (hp.mem_iff.1 ha) b (hp.mem_iff.1 hb) (by omega) (by omega)
   subst e
   exact k12 _ hxs
end
end Go.Proofs.YthhadkggldcolaaGreat
namespace Go.Proofs.YthhadkggldcolaaGreat
open Go.RowKit
section
variable {σ:Hp} {W:GaW} {g:Gal} {l:SL} {ws:Nat->SL} {G:List Grp}
theorem Yk {w:Int} {B:List BthG} {G:List Grp} (hv:Val w B G):(Ngt.played w B G).visits.length<=600/\∀ v∈(Ngt.played w B G).visits,0<=v.1/\v.1<G.length/\0<=v.2.1/\v.2.1<(wn G v.1).length:=by
 obtain ⟨pl,h1,h2,h3,_⟩:=Q4 hv 4001 (Nat.le_refl _)
 rw [NV]
 have hp:=Cz vle (Ngt.run w B G 4001).visits
 refine ⟨by rw [show (R3 (Ngt.run w B G 4001).visits).length=_ from hp.length_eq];exact h1.vlen hv h2,fun v hm=>?_⟩
 obtain ⟨a1,a2,a3,a4,_⟩:=h2.vk v (hp.mem_iff.1 hm)
 have hr:=(h1.gr v.1 a1 a2).w1
 rw [← (Ngt.run w B G 4001).pa_wish] at a4
 exact ⟨a1,a2,a3,by omega⟩
def Gal.tell (g:Gal) (G:List Grp) (v:Vis):Vis:=(v.1,gt (wis g.open (wn G v.1)) v.2.1,v.2.2)
def Gal.tellK (g:Gal) (G:List Grp) (V:List Vis) (k:Nat):List Vis:=(V.take k).map (g.tell G)++V.drop k
theorem Jo {V:List Vis} {k:Nat}:(g.tellK G V k).length=V.length:=by
 unfold Gal.tellK
 rw [List.length_append,List.length_map,List.length_take,List.length_drop];omega
theorem Y0 {V:List Vis}:g.tellK G V 0=V:=by simp [Gal.tellK]
theorem UX {V:List Vis}:g.tellK G V V.length=V.map (g.tell G):=by simp [Gal.tellK]
theorem Po {V:List Vis} {k:Nat} (h:k<V.length) (h':k<(g.tellK G V k).length):(g.tellK G V k)[k]=V[k]:=by
 have e:(g.tellK G V k)[k]? = V[k]? := by
  unfold Gal.tellK
  have e1:((V.take k).map (g.tell G)).length=k:=by simp;omega
  rw [List.getElem?_append_right (by omega),e1,Nat.sub_self,List.getElem?_drop,Nat.add_zero]
 rw [List.getElem?_eq_getElem h',List.getElem?_eq_getElem h] at e
 exact Option.some.inj e
theorem ZW {V:List Vis} {k:Nat} (h:k<V.length):(g.tellK G V k).set k (g.tell G V[k])=g.tellK G V (k+1):=by
 unfold Gal.tellK
 have e:((V.take k).map (g.tell G)).length=k:=by simp;omega
 rw [List.set_append_right _ _ (by omega),e,Nat.sub_self,List.drop_eq_getElem_cons h,List.set_cons_zero,List.take_succ_eq_append_getElem h,List.map_append]
 simp
def Gal.vis (g:Gal) (G:List Grp):List Vis:=(Ngt.played g.w g.B (g.red G)).visits.map (g.tell G)
def Gal.plays (g:Gal) (G:List Grp):List Vis:=if g.chkG G=0 then g.vis G else []
theorem YI {G:List Grp} {i:Int} (h0:0<=i) (h1:i<G.length):wn G i=(G[i.toNat]'(by omega)).wants:=by
 unfold wn
 simp [List.getD,show i.toNat<G.length by omega]
theorem Ab8 {i:Int} (h0:0<=i) (h1:i<G.length):(wn (g.red G) i).length=(wis g.open (wn G i)).length:=by
 rw [YI h0 (by rw [Gal.red_len];exact h1),YI h0 h1]
 have:(g.red G)[i.toNat]'(by rw [Gal.red_len];omega)=Ac3 g.open (G[i.toNat]'(by omega)):=List.getElem_map ..
 rw [this]
 exact T5
def VnR (σ:Hp) (vs:List Vis) (c:Int):Value->Hp->Prop:=fun v σ'=>∃ s:SL,v=.tuple #[s.v,.int .i64 c]/\Hp.Sub σ σ'/\RdS sV σ' s.A s.n vs
theorem VnR.err (h:¬ g.chkG G=0):VnR σ (g.plays G) (g.chkG G) (.tuple #[.slice none 0 0,.int .i64 (g.chkG G)]) σ:=⟨⟨none,0,0⟩,rfl,Hp.Sub.refl _,by
 have:g.plays G=[]:=if_neg h
 rw [this]
 exact (Ai.nil 59 sV σ).rd⟩
theorem YN {σ1 σ' τ:Hp} {A:Option Addr} {n c:Nat} {V:List Vis} {k:Nat} {K:Hp->Prop} (h:Ai 59 sV σ1 A n c (g.tellK G V k) σ') (hs:Hp.Sub σ' τ) (hk:k<V.length)
  (hK:∀ σ2 τ2,Ai 59 sV σ1 A n c (g.tellK G V (k+1)) σ2->Hp.Sub σ2 τ2->K τ2):ix A n (k:Nat) 6 fun b a=>st τ b (a+1) (.int .i64 (gt (wis g.open (wn G V[k].1)) V[k].2.1)) K:=by
 have hl:k<(g.tellK G V k).length:=by rw [Jo];exact hk
 obtain ⟨b,off,hA,_⟩:=Ai.someA (ss:=sV) h (show 0<List.length (g.tellK G V k) by omega)
 have hn:n=(g.tellK G V k).length:=h.len
 refine H6 hA (by omega) (by omega) ?_
 simp only [Int.toNat_natCast]
 refine h.st1V hs (j:=1) (r:=g.tell G V[k]) hA hl (Po hk hl) rfl fun σ2 τ2 h2 s2=>hK σ2 τ2 ?_ s2
 rw [ZW hk] at h2
 exact h2
theorem Acp (h:GaR σ W g) (he:EvR σ W.r g.B l ws G):Af Tryz.prog Vv #[W.v g,l.v] σ (VnR σ (g.plays G) (g.chkG G)):=by
 refine SD _ _ _ _ _ _ _ _ _ _ _ _ _ _ _ _ _ _ _ _ _ _ _ _ _ _ _ _ _ _ _ _ _ _ _ _ _ ?_
 unfold Kp
 refine Be Gp (XD h he) ?_
 rintro v σ2 (⟨e,rfl,rfl⟩ | ⟨e,b,ps,P,rfl,hs2,hN⟩)
 ·exact ⟨_,_,rfl,Bu (fun _=>Ah (VnR.err e)) (fun e2=>absurd e2 e)⟩
 obtain ⟨hg,hq⟩:=Gal.chkG_ok e
 have hv:=Cp hq
 have hn60:=hv.n
 have hrd:=Gal.red_chk hq
 have hPl:=hN.pa.1
 have hvr:=Cp hrd
 have epl:g.plays G=g.vis G:=if_pos e
 rw [epl,e]
 refine ⟨_,_,rfl,Bu (fun e2=>absurd rfl e2) (fun _=>AD (Bd hN.b rfl (Bs hN.b rfl ?_)))⟩
 refine Be CW (UR hN (h.r.sub hs2) (by omega)) ?_
 rintro v σ10 ⟨s,ws',rfl,hs10,he10⟩
 refine ⟨_,_,_,rfl,hs10,?_⟩
 refine Be Pe (AcR (w:=g.w) he10) ?_
 rintro v σ13 ⟨s13,σ1,rfl,hs1,ho⟩
 rw [hrd] at ho ⊢
 have evl:vsL 0 (Ngt.played g.w g.B (g.red G)).visits=(Ngt.played g.w g.B (g.red G)).visits:=if_pos rfl
 rw [evl] at ho
 obtain ⟨hvl,hvin⟩:=Yk hvr
 have evi:g.vis G=(Ngt.played g.w g.B (g.red G)).visits.map (g.tell G):=rfl
 rw [evi]
 clear evl evi epl
 generalize (Ngt.played g.w g.B (g.red G)).visits=V at *
 refine ⟨_,_,_,_,rfl,Ad fun J18 h18=>?_⟩
 refine ⟨fun q i τ=>∃ (k:Nat) (σ':Hp),q=V.length-k/\i=k/\k<=V.length/\Ai 59 sV σ1 s13.A s13.n s13.c (g.tellK G V k) σ'/\Hp.Sub σ' τ,⟨_,0,σ13,rfl,rfl,by omega,by rw [Y0];exact ho,Hp.Sub.refl _⟩,?_⟩
 rintro q i τ ⟨k,σ',rfl,rfl,hk,hown,hs'⟩ _
 have hn13:s13.n=V.length:=by rw [hown.len];exact Jo
 have hlk:(g.tellK G V k).length=V.length:=Jo
 refine AA (fun hlt=>?_) (fun hlt=>?_)
 ·have hkl:k<V.length:=by omega
  obtain ⟨a1,a2,a3,a4⟩:=hvin V[k] (List.getElem_mem hkl)
  rw [Gal.red_len] at a2
  rw [Ab8 a1 a2] at a4
  have hNτ:=hN.sub (hs10.trans (hs1.trans (hown.sub.trans hs')))
  refine RdS.vix (hown.rd.sub hs') (by omega) (Po hkl (by omega)) fun b1 o1 c0 c1 c2 c3 c4 c5=>AN c0 (AN c1 (AN c2 (ID c3 (AN c4 (AN c5 ?_)))))
  refine AD (Bd hNτ.b rfl ?_)
  have hi:V[k].1.toNat<P.length:=by omega
  refine Da (ss:=sN) hNτ.ps rfl a1 hi fun b2 o2 hc2=>CI (hc2 5 (by decide)) ?_
  have hp:=(hNτ.pa.2 V[k].1.toNat (by omega) hi).v
  rw [← YI a1 a2] at hp
  refine Cx hp a3 a4 (YN hown hs' hkl fun σ3 τ3 h3 s3=>?_)
  exact AT (by omega) (A0 _ (by omega) ⟨k+1,σ3,rfl,by omega,by omega,h3,s3⟩)
 ·obtain rfl:k=V.length:=by omega
  rw [h18]
  intro _
  rw [UX] at hown
  exact Ah ⟨s13,rfl,hs2.trans (hs10.trans (hs1.trans (hown.sub.trans hs'))),hown.rd.sub hs'⟩
theorem AcQ (h:GaR σ W g) (he:EvR σ W.r g.B l ws G) (hB:g.B.length<=4294967296) (hc:W.e.n<=W.e.c) (hG:G.length<=4294967296) (hW:∀ k,(h:k<G.length)->G[k].wants.length<=4294967296):Af Tryz.prog Wa #[W.v g,l.v] σ (VnR σ (g.plays G) (g.chkG G)):=by
 refine SW _ _ _ _ _ _ _ _ _ _ _ _ _ _ _ _ _ _ _ _ _ _ _ _ _ _ _ _ _ _ _ _ _ _ _ _ _ ?_
 unfold KL
 refine clI HS (TE h he hB hc hG hW) (Bu (fun e=>Ah (VnR.err e)) (fun e=>?_))
 obtain ⟨hg,hq⟩:=Gal.chkG_ok e
 have hv:=Cp hq
 have hn60:=hv.n
 have hm8:=hv.m
 have hrd:=Gal.red_chk hq
 have hvr:=Cp hrd
 have epl:g.plays G=g.vis G:=if_pos e
 rw [epl,e]
 refine Be OR (Ac6 h he hg hq hc) ?_
 rintro v σ5 ⟨s,q,ws',ys,rfl,hs5,he5,hys,hyl,hy⟩
 refine ⟨_,_,_,_,_,_,rfl,?_⟩
 refine Be Pd (XQ (w:=g.w) he5 (by omega) (by rw [Gal.red_len];omega) (Abc hq)) ?_
 rintro v σ9 ⟨s9,σ1,rfl,hs1,ho⟩
 rw [hrd] at ho ⊢
 have evl:vsL 0 (Ngt.played g.w g.B (g.red G)).visits=(Ngt.played g.w g.B (g.red G)).visits:=if_pos rfl
 rw [evl] at ho
 obtain ⟨hvl,hvin⟩:=Yk hvr
 have evi:g.vis G=(Ngt.played g.w g.B (g.red G)).visits.map (g.tell G):=rfl
 rw [evi]
 clear evl evi epl
 generalize (Ngt.played g.w g.B (g.red G)).visits=V at *
 refine ⟨_,_,_,_,rfl,Ad fun J14 h14=>?_⟩
 refine ⟨fun q i τ=>∃ (k:Nat) (σ':Hp),q=V.length-k/\i=k/\k<=V.length/\Ai 59 sV σ1 s9.A s9.n s9.c (g.tellK G V k) σ'/\Hp.Sub σ' τ,⟨_,0,σ9,rfl,rfl,by omega,by rw [Y0];exact ho,Hp.Sub.refl _⟩,?_⟩
 rintro m i τ ⟨k,σ',rfl,rfl,hk,hown,hs'⟩ _
 have hn9:s9.n=V.length:=by rw [hown.len];exact Jo
 have hlk:(g.tellK G V k).length=V.length:=Jo
 refine AA (fun hlt=>?_) (fun hlt=>?_)
 ·have hkl:k<V.length:=by omega
  obtain ⟨a1,a2,a3,a4⟩:=hvin V[k] (List.getElem_mem hkl)
  rw [Gal.red_len] at a2
  rw [Ab8 a1 a2] at a4
  have hsτ:=hs1.trans (hown.sub.trans hs')
  refine RdS.vix (hown.rd.sub hs') (by omega) (Po hkl (by omega)) fun b1 o1 c0 _ _ _ _ _=>AN c0 ?_
  have hi:V[k].1.toNat<ys.length:=by omega
  refine Da (ss:=[.slc]) (hys.sub hsτ) rfl a1 hi fun b2 o2 hc2=>CI (hc2 0 (by decide)) ?_
  refine RdS.vix (hown.rd.sub hs') (by omega) (Po hkl (by omega)) fun b1 o1 _ c1 _ _ _ _=>AN c1 ?_
  have hp:=(hy V[k].1.toNat (by omega) hi).sub hsτ
  rw [← YI a1 a2] at hp
  refine Cx hp a3 a4 (YN hown hs' hkl fun σ3 τ3 h3 s3=>?_)
  exact AT (by omega) (A0 _ (by omega) ⟨k+1,σ3,rfl,by omega,by omega,h3,s3⟩)
 ·obtain rfl:k=V.length:=by omega
  rw [h14]
  intro _
  rw [UX] at hown
  exact Ah ⟨s9,rfl,hs5.trans (hs1.trans (hown.sub.trans hs')),hown.rd.sub hs'⟩
theorem ZF:(g.plays G).length<=600:=by
 unfold Gal.plays
 split
 ·rename_i e
  unfold Gal.vis
  rw [List.length_map]
  exact (Yk (Cp (Gal.red_chk (Gal.chkG_ok e).2))).1
 ·exact Nat.zero_le _
theorem ZU {A A':Option Addr} {n n' c c':Nat} {xs ys:List Vis} (h:RdS sV σ A n xs) (h':RdS sV σ A' n' ys) (hl:xs.length<=4294967296) (he:xs=ys):Af Tryz.prog O8 #[.slice A n c,.slice A' n' c'] σ fun v σ'=>v=.bool true/\σ'=σ:=by
 subst he
 refine K8 _ _ _ _ _ _ _ _ ?_
 unfold Eb
 have hn:n=xs.length:=h.1
 have hn':n'=xs.length:=h'.1
 refine BI (fun e=>?_) (fun e=>?_)
 ·have e:¬ (n:Int)=n':=by simpa using e
  exact absurd (by rw [hn,hn']) e
 ·refine Ad fun J3 h3=>?_
  refine ⟨fun m i τ=>∃ k:Nat,m=xs.length-k/\i=k/\k<=xs.length/\τ=σ,⟨_,0,rfl,rfl,by omega,rfl⟩,?_⟩
  rintro m i τ ⟨k,rfl,rfl,hk,rfl⟩ _
  refine AA (fun hlt=>?_) (fun hlt=>?_)
  ·have hkl:k<xs.length:=by omega
   refine h.vix hkl rfl fun b o c0 c1 c2 c3 c4 c5=>AN c0 (AN c1 (AN c2 (ID c3 (AN c4 (AN c5 ?_)))))
   refine h'.vix hkl rfl fun b o c0 c1 c2 c3 c4 c5=>AN c0 (AN c1 (AN c2 (ID c3 (AN c4 (AN c5 ?_)))))
   refine BI (fun e2=>?_) (fun e2=>?_)
   ·simp at e2
   ·exact AT (by omega) (A0 _ (by omega) ⟨k+1,rfl,by omega,by omega,rfl⟩)
  ·rw [h3]
   intro _
   exact Ah ⟨rfl,rfl⟩
end
end Go.Proofs.YthhadkggldcolaaGreat
