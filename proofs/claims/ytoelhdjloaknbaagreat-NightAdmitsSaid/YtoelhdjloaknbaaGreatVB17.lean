/- What this claim rests on. -/
import Derived.Test.YtoelhdjloaknbaaGreatVB16
import Derived.Test.YtoelhdjloaknbaaGreatVQ3
namespace Go.Proofs.YtoelhdjloaknbaaGreat
open Go.RowKit Go.Proofs.Tryz
abbrev sGs:List Sh:=[.int .i64,.int .i64,.int .i64,.int .i64]
def gsT (x:Gs):TyR sGs:=(x.st,x.want,x.since,x.tokens)
def slT (s:SL):TyR [.slc]:=(s.A,s.n,s.c)
def ownP (e:TypeId) (ss:List Sh) (s:SL) (xs:List (TyR ss)):Rel:=fun σ σ'=>Aj e ss σ s.A s.n s.c xs σ'
def ownI (s:SL) (xs:List Int):Rel:=fun σ σ'=>Aj 3 aM σ s.A s.n s.c xs σ'
theorem Au.ownP {e:TypeId} {ss:List Sh} {s:SL} {xs:List (TyR ss)}:Au (ownP e ss s xs):=Au.own
theorem Au.ownI {s:SL} {xs:List Int}:Au (ownI s xs):=Au.own
def SL.d:SL:=⟨none,0,0⟩
structure PW where
 pb:Nat
 f:SL
 l:SL
 gu:SL
 q:SL
 be:SL
 en:SL
 ta:SL
 li:SL
 ho:SL
def Xg (W:PW) (S:Pl) (v:SL):Array Value:=#[W.f.v,aD S.walk,W.l.v,aD S.now,W.gu.v,W.q.v,W.be.v,W.en.v,v.v,W.ta.v,W.li.v,W.ho.v]
def coreP (W:PW) (S:Pl):Rel:=fun σ σ'=>∃ v,(Blk W.pb (.cells (Xg W S v) 178 (0,0))).seq (fun σ1 σ2=>Aj 75 sV σ1 v.A v.n v.c S.visits σ2) σ σ'
def Wm (hs:List SL) (qs:List (List Int)):List Rel:=(List.range qs.length).map fun i=>ownI (hs.getD i SL.d) (qs.getD i [])
def queP (s:SL) (qs:List (List Int)):Rel:=fun σ σ'=>∃ hs:List SL,(fun σ σ'=>hs.length=qs.length/\(Rel.seq (ownP 26 [.slc] s (hs.map slT)) (Cs (Wm hs qs))) σ σ':Rel) σ σ'
theorem Hr {hs:List SL} {qs:List (List Int)}:∀ R∈Wm hs qs,Au R:=by
 intro R hR
 obtain ⟨i,_,rfl⟩:=List.mem_map.1 hR
 exact Au.ownI
theorem Au.coreP {W:PW} {S:Pl}:Au (coreP W S):=Au.ex fun _=>Au.seq Au.blk Au.own
theorem Au.queP {s:SL} {qs:List (List Int)}:Au (queP s qs):=Au.ex fun _=>Au.and (Au.seq Au.own (Au.star Hr))
def Iw (W:PW) (S:Pl):List Rel:=[coreP W S,ownP 237 sGs W.gu (S.guests.map gsT),queP W.q S.queues,ownI W.be S.began,ownI W.en S.ended,ownI W.ta S.takes,ownI W.li S.lines,ownI W.ho S.homes]
theorem G6 {W:PW} {S:Pl}:∀ R∈Iw W S,Au R:=by
 intro R hR
 simp only [Iw,List.mem_cons,List.not_mem_nil,or_false] at hR
 rcases hR with rfl | rfl | rfl | rfl | rfl | rfl | rfl | rfl
 ·exact Au.coreP
 ·exact Au.ownP
 ·exact Au.queP
 all_goals exact Au.ownI
theorem Wg {W:PW} {S:Pl}:Au (Cs (Iw W S)):=Au.star G6
def AO (W:PW) (σ0 σ:Hp) (S:Pl):Prop:=Lse (Cs (Iw W S)) σ0 σ
theorem AO.sub {W:PW} {σ0 σ:Hp} {S:Pl} (h:AO W σ0 σ S):Hp.Sub σ0 σ:=Lse.sub Wg h
theorem AO.up {W:PW} {σ0 σ σ':Hp} {S:Pl} (h:AO W σ0 σ S) (hs:Hp.Sub σ σ'):AO W σ0 σ' S:=Lse.up h hs
theorem Aj.cellAt {e:TypeId} {ss:List Sh} {σ σ':Hp} {A:aA} {n c:Nat} {xs:List (TyR ss)} (h:Aj e ss σ A n c xs σ') {b off i j:Nat} (hA:A=some ⟨b,off,none⟩) (hi:i<xs.length) (hj:j<ss.length):σ'.cell? ⟨b,off+i*ss.length+j,none⟩=(Cc ss xs[i])[j]? := by
 obtain ⟨b',off',hA',hc⟩:=h.rd.cell hi
 rw [hA] at hA'
 cases hA'
 rw [Nat.add_assoc]
 exact hc j hj
theorem Aj.putAt {e:TypeId} {ss:List Sh} {σ σ':Hp} {A:aA} {n c:Nat} {xs:List (TyR ss)} (h:Aj e ss σ A n c xs σ') {b off i j:Nat} {v:Value} {r:TyR ss} (hA:A=some ⟨b,off,none⟩) (hi:i<xs.length) (hr:setR ss xs[i] j v=some r):
  σ'.wr ⟨b,off+i*ss.length+j,none⟩/\∃ σ2,Aj e ss σ A n c (xs.set i r) σ2/\Hp.Sub σ2 (σ'.put ⟨b,off+i*ss.length+j,none⟩ v):=by
 obtain ⟨b',off',hA',hp⟩:=h.put (Hp.Sub.refl _) hi
 rw [hA] at hA'
 cases hA'
 rw [Nat.add_assoc]
 exact hp j v r hr
theorem Aj.someA {e:TypeId} {ss:List Sh} {σ σ':Hp} {A:aA} {n c:Nat} {xs:List (TyR ss)} (h:Aj e ss σ A n c xs σ') (hx:0<xs.length):∃ b off,A=some ⟨b,off,none⟩/\∃ cells,σ' b=some (.cells cells e (0,0),true):=by
 rcases h with ⟨_,_,_,rfl,_⟩ | ⟨b,off,cells,hA,_,_,_,rfl,_⟩
 ·simp at hx
 ·exact ⟨b,off,hA,cells,Hp.ins_same ..⟩
theorem Lu {A:aA} {n w b off:Nat} {i:Int} {K:Nat->Nat->Prop} (hA:A=some ⟨b,off,none⟩) (h0:0<=i) (h1:i<n) (hk:K b (off+i.toNat*w)):ix A n i w K:=by
 subst hA
 refine ⟨h0,h1,?_⟩
 rw [Cm]
 exact hk
section
variable {W:PW} {σ0 σ:Hp} {S:Pl}
theorem AO.core (h:AO W σ0 σ S):∃ σ1,coreP W S σ1 σ/\∀ R' σ2 σ',Au R'->R' σ1 σ2->Hp.Sub σ2 σ'->Lse (Cs ((Iw W S).set 0 R')) σ0 σ':=Il (k:=0) G6 (by show 0<8;omega) h
theorem AO.at_ (h:AO W σ0 σ S) (k:Nat) (hk:k<8):∃ σ1,((Iw W S)[k]'hk) σ1 σ/\∀ R' σ2 σ',Au R'->R' σ1 σ2->Hp.Sub σ2 σ'->Lse (Cs ((Iw W S).set k R')) σ0 σ':=Il (k:=k) G6 hk h
theorem AO.pblk (h:AO W σ0 σ S):∃ v:SL,σ W.pb=some (.cells (Xg W S v) 178 (0,0),true):=by
 obtain ⟨σ1,⟨v,σ2,h1,h2⟩,_⟩:=h.core
 exact ⟨v,h2.sub _ _ h1.get⟩
theorem AO.now (h:AO W σ0 σ S) (t:Int):σ.wr ⟨W.pb,3,none⟩/\AO W σ0 (σ.put ⟨W.pb,3,none⟩ (aD t)) (S.later t):=by
 obtain ⟨σ1,⟨v,σ2,h1,h2⟩,h3⟩:=h.core
 obtain ⟨w1,w2,_⟩:=h1.st h2.sub (k:=3) (show 3<12 by omega) (aD t)
 exact ⟨w1,h3 (coreP W (S.later t)) _ _ Au.coreP ⟨v,_,w2,h2.putb h1.get _⟩ (Hp.Sub.refl _)⟩
theorem AO.vis (h:AO W σ0 σ S):∃ (v:SL) (σ1:Hp),σ W.pb=some (.cells (Xg W S v) 178 (0,0),true)/\Aj 75 sV σ1 v.A v.n v.c S.visits σ /\
  ∀ (vs:List Vis) (s:SL) (σ2:Hp),Aj 75 sV σ1 s.A s.n s.c vs σ2->σ2.wr ⟨W.pb,8,none⟩/\AO W σ0 (σ2.put ⟨W.pb,8,none⟩ s.v) { S with visits:=vs }:=by
 obtain ⟨σ1,⟨v,σ2,h1,h2⟩,h3⟩:=h.core
 refine ⟨v,σ2,h2.sub _ _ h1.get,h2,fun vs s s4 h4=>?_⟩
 obtain ⟨w1,w2,w3⟩:=h1.st h4.sub (k:=8) (show 8<12 by omega) s.v
 exact ⟨w1,h3 (coreP W { S with visits:=vs }) _ _ Au.coreP ⟨s,_,w2,h4.putb h1.get s.v⟩ (Hp.Sub.refl _)⟩
theorem AO.gA (h:AO W σ0 σ S) {g:Int} (hg:g.toNat<S.guests.length):(∃ b off,W.gu.A=some ⟨b,off,none⟩)/\W.gu.n=S.guests.length:=by
 obtain ⟨σ1,h1,_⟩:=h.at_ 1 (by omega)
 have h1:Aj 237 sGs σ1 W.gu.A W.gu.n W.gu.c (S.guests.map gsT) σ:=h1
 obtain ⟨b,off,hA,_⟩:=h1.someA (by rw [List.length_map];omega)
 exact ⟨⟨b,off,hA⟩,by rw [h1.len];exact List.length_map ..⟩
theorem AO.gcell (h:AO W σ0 σ S) {g:Int} {b off j:Nat} (hA:W.gu.A=some ⟨b,off,none⟩) (hg:g.toNat<S.guests.length) (hj:j<4):σ.cell? ⟨b,off+g.toNat*4+j,none⟩=(Cc sGs (gsT (S.gu g)))[j]? := by
 obtain ⟨σ1,h1,_⟩:=h.at_ 1 (by omega)
 have h1:Aj 237 sGs σ1 W.gu.A W.gu.n W.gu.c (S.guests.map gsT) σ:=h1
 have hg':g.toNat<(S.guests.map gsT).length:=by rw [List.length_map];exact hg
 have:=h1.cellAt hA hg' (j:=j) hj
 have e:(S.guests.map gsT)[g.toNat]'hg'=gsT (S.gu g):=by simp [Pl.gu,List.getD,hg]
 rw [e] at this
 exact this
theorem AO.gst (h:AO W σ0 σ S) {g:Int} {b off j:Nat} {v:Value} {x':Gs} (hA:W.gu.A=some ⟨b,off,none⟩) (hg:g.toNat<S.guests.length) (hr:setR sGs (gsT (S.gu g)) j v=some (gsT x')):
  σ.wr ⟨b,off+g.toNat*4+j,none⟩/\AO W σ0 (σ.put ⟨b,off+g.toNat*4+j,none⟩ v) (S.setG g x'):=by
 obtain ⟨σ1,h1,h2⟩:=h.at_ 1 (by omega)
 have h1:Aj 237 sGs σ1 W.gu.A W.gu.n W.gu.c (S.guests.map gsT) σ:=h1
 have hg':g.toNat<(S.guests.map gsT).length:=by rw [List.length_map];exact hg
 have e:(S.guests.map gsT)[g.toNat]'hg'=gsT (S.gu g):=by simp [Pl.gu,List.getD,hg]
 obtain ⟨w1,σ2,w2,w3⟩:=h1.putAt (j:=j) (v:=v) (r:=gsT x') hA hg' (by rw [e];exact hr)
 refine ⟨w1,?_⟩
 have e2:(S.guests.map gsT).set g.toNat (gsT x')=(S.setG g x').guests.map gsT:=(List.map_set ..).symm
 rw [e2] at w2
 exact h2 (ownP 237 sGs W.gu ((S.setG g x').guests.map gsT)) _ _ Au.ownP w2 w3
theorem AO.ird (h:AO W σ0 σ S):RdS aM σ W.be.A W.be.n S.began/\RdS aM σ W.en.A W.en.n S.ended/\RdS aM σ W.ta.A W.ta.n S.takes/\RdS aM σ W.li.A W.li.n S.lines/\RdS aM σ W.ho.A W.ho.n S.homes:=by
 obtain ⟨_,h3,_⟩:=h.at_ 3 (by omega)
 obtain ⟨_,h4,_⟩:=h.at_ 4 (by omega)
 obtain ⟨_,h5,_⟩:=h.at_ 5 (by omega)
 obtain ⟨_,h6,_⟩:=h.at_ 6 (by omega)
 obtain ⟨_,h7,_⟩:=h.at_ 7 (by omega)
 exact ⟨Aj.rd h3,Aj.rd h4,Aj.rd h5,Aj.rd h6,Aj.rd h7⟩
theorem ist {s:SL} {xs:List Int} {σ1 σ:Hp} (h:ownI s xs σ1 σ) {i v:Int} {K:Hp->Prop} (h0:0<=i) (h1:i<xs.length) (hk:∀ σ2 τ2,ownI s (xs.set i.toNat v) σ1 σ2->Hp.Sub σ2 τ2->K τ2):ix s.A s.n i 1 fun b a=>st σ b a (aD v) K:=
 Aj.ix_stI (e:=3) h (Hp.Sub.refl _) h0 (by omega) fun σ2 τ2 h2 h3=>hk σ2 τ2 h2 h3
theorem AO.stBe (h:AO W σ0 σ S) {i v:Int} {K:Hp->Prop} (h0:0<=i) (h1:i<S.began.length) (hk:∀ τ,AO W σ0 τ { S with began:=S.began.set i.toNat v }->K τ):ix W.be.A W.be.n i 1 fun b a=>st σ b a (aD v) K:=by
 obtain ⟨σ1,h3,h4⟩:=h.at_ 3 (by omega)
 exact ist h3 h0 h1 fun σ2 τ2 p1 p2=>hk _ (h4 (ownI W.be (S.began.set i.toNat v)) _ _ Au.ownI p1 p2)
theorem AO.stEn (h:AO W σ0 σ S) {i v:Int} {K:Hp->Prop} (h0:0<=i) (h1:i<S.ended.length) (hk:∀ τ,AO W σ0 τ { S with ended:=S.ended.set i.toNat v }->K τ):ix W.en.A W.en.n i 1 fun b a=>st σ b a (aD v) K:=by
 obtain ⟨σ1,h3,h4⟩:=h.at_ 4 (by omega)
 exact ist h3 h0 h1 fun σ2 τ2 p1 p2=>hk _ (h4 (ownI W.en (S.ended.set i.toNat v)) _ _ Au.ownI p1 p2)
theorem AO.stTa (h:AO W σ0 σ S) {i v:Int} {K:Hp->Prop} (h0:0<=i) (h1:i<S.takes.length) (hk:∀ τ,AO W σ0 τ { S with takes:=S.takes.set i.toNat v }->K τ):ix W.ta.A W.ta.n i 1 fun b a=>st σ b a (aD v) K:=by
 obtain ⟨σ1,h3,h4⟩:=h.at_ 5 (by omega)
 exact ist h3 h0 h1 fun σ2 τ2 p1 p2=>hk _ (h4 (ownI W.ta (S.takes.set i.toNat v)) _ _ Au.ownI p1 p2)
theorem AO.stLi (h:AO W σ0 σ S) {i v:Int} {K:Hp->Prop} (h0:0<=i) (h1:i<S.lines.length) (hk:∀ τ,AO W σ0 τ { S with lines:=S.lines.set i.toNat v }->K τ):ix W.li.A W.li.n i 1 fun b a=>st σ b a (aD v) K:=by
 obtain ⟨σ1,h3,h4⟩:=h.at_ 6 (by omega)
 exact ist h3 h0 h1 fun σ2 τ2 p1 p2=>hk _ (h4 (ownI W.li (S.lines.set i.toNat v)) _ _ Au.ownI p1 p2)
theorem AO.stHo (h:AO W σ0 σ S) {i v:Int} {K:Hp->Prop} (h0:0<=i) (h1:i<S.homes.length) (hk:∀ τ,AO W σ0 τ { S with homes:=S.homes.set i.toNat v }->K τ):ix W.ho.A W.ho.n i 1 fun b a=>st σ b a (aD v) K:=by
 obtain ⟨σ1,h3,h4⟩:=h.at_ 7 (by omega)
 exact ist h3 h0 h1 fun σ2 τ2 p1 p2=>hk _ (h4 (ownI W.ho (S.homes.set i.toNat v)) _ _ Au.ownI p1 p2)
theorem AcJ {hs:List SL} {qs:List (List Int)} {k:Nat} {s:SL} {q:List Int} (hl:hs.length=qs.length) (hk:k<qs.length):Wm (hs.set k s) (qs.set k q)=(Wm hs qs).set k (ownI s q):=by
 unfold Wm
 apply List.ext_getElem
 ·simp
 ·intro i h1 h2
  simp only [List.length_map,List.length_range,List.length_set] at h1
  simp only [List.getElem_map,List.getElem_range,List.getElem_set]
  by_cases e:k=i
  ·subst e
   rw [if_pos rfl,BY (by omega),if_pos rfl,BY hk,if_pos rfl]
  ·rw [if_neg e,BY (by omega),if_neg fun h=>e h.symm,BY hk,if_neg fun h=>e h.symm]
theorem AO.que (h:AO W σ0 σ S) {r:Int} (hr:r.toNat<S.queues.length):∃ (b off:Nat) (s:SL) (s3:Hp),W.q.A=some ⟨b,off,none⟩/\W.q.n=S.queues.length/\σ.cell? ⟨b,off+r.toNat*1,none⟩=some s.v/\Aj 3 aM s3 s.A s.n s.c (S.qu r) σ/\(∃ v:SL,s3 W.pb=some (.cells (Xg W S v) 178 (0,0),true)) /\
  ∀ (xs:List Int) (s':SL) (s4:Hp),Aj 3 aM s3 s'.A s'.n s'.c xs s4->s4.wr ⟨b,off+r.toNat*1,none⟩/\AO W σ0 (s4.put ⟨b,off+r.toNat*1,none⟩ s'.v) (S.setQ r xs):=by
 obtain ⟨σ1,hq,hk⟩:=h.at_ 2 (by omega)
 obtain ⟨hs,hl,σ2,ho,hi⟩:=hq
 have ho:Aj 26 [.slc] σ1 W.q.A W.q.n W.q.c (hs.map slT) σ2:=ho
 have hlm:r.toNat<(hs.map slT).length:=by rw [List.length_map,hl];exact hr
 obtain ⟨b,off,hA,cells,hbb⟩:=ho.someA (by omega)
 obtain ⟨s3,h3,h4⟩:=Il (k:=r.toNat) Hr (by unfold Wm;rw [List.length_map,List.length_range];exact hr) (Lse.of hi)
 have e3:(Wm hs S.queues)[r.toNat]'(by unfold Wm;rw [List.length_map,List.length_range];exact hr)=ownI (hs.getD r.toNat SL.d) (S.qu r):=by simp [Wm,Pl.qu]
 rw [e3] at h3
 have hn:W.q.n=S.queues.length:=by rw [ho.len,← hl];exact List.length_map ..
 have hsub:=Au.sub (Au.star (Hr (hs:=hs) (qs:=S.queues))) hi
 have hcell:σ.cell? ⟨b,off+r.toNat*1,none⟩=some (hs.getD r.toNat SL.d).v:=by
  have:=ho.cellAt hA hlm (j:=0) (by show 0<1;omega)
  have e:(hs.map slT)[r.toNat]'hlm=slT (hs.getD r.toNat SL.d):=by
   have:r.toNat<hs.length:=by rw [hl];exact hr
   simp [List.getD,this]
  rw [e] at this
  exact Xw hsub this
 have key:∀ (xs:List Int) (s':SL) (s4:Hp),Aj 3 aM s3 s'.A s'.n s'.c xs s4->s4.wr ⟨b,off+r.toNat*1,none⟩/\AO W σ0 (s4.put ⟨b,off+r.toNat*1,none⟩ s'.v) (S.setQ r xs):=by
  intro xs s' s4 h5
  have h6:=h4 (ownI s' xs) s4 s4 Au.ownI h5 (Hp.Sub.refl _)
  rw [← AcJ hl hr] at h6
  obtain ⟨w1,s5,w2,w3⟩:=ho.putAt (j:=0) (v:=s'.v) (r:=slT s') hA hlm rfl
  have h7:=Lse.put (Au.star Hr) h6 hbb (k:=off+r.toNat*1) s'.v
  have h8:=h7.low (Au.star Hr) w3
  obtain ⟨s6,h9,h10⟩:=h8
  refine ⟨Rr w1 (Lse.sub (Au.star Hr) h6),?_⟩
  refine hk (queP W.q (S.setQ r xs).queues) s6 _ Au.queP ⟨hs.set r.toNat s',by show _=(S.queues.set _ _).length;rw [List.length_set,List.length_set];exact hl,s5,?_,h9⟩ h10
  have e:(hs.map slT).set r.toNat (slT s')=(hs.set r.toNat s').map slT:=(List.map_set ..).symm
  rw [e] at w2
  exact w2
 refine ⟨b,off,hs.getD r.toNat SL.d,s3,hA,hn,hcell,h3,?_,key⟩
 obtain ⟨⟨cw,ew,hw,_⟩,h'⟩:=key [] SL.d s3 (Aj.nil ..)
 obtain ⟨v,hv⟩:=h'.pblk
 have hne:W.pb≠b:=fun e=>by
  have hb3:∃ cells',(s3.put ⟨b,off+r.toNat*1,none⟩ SL.d.v) b=some (.cells cells' 26 (0,0),true):=by
   obtain ⟨s1',hq',_⟩:=h'.at_ 2 (by omega)
   obtain ⟨hs',hl',s2',ho',hi'⟩:=hq'
   have ho':Aj 26 [.slc] s1' W.q.A W.q.n W.q.c (hs'.map slT) s2':=ho'
   have hpos:0<(hs'.map slT).length:=by
    rw [List.length_map,hl']
    show 0<(S.queues.set _ _).length
    rw [List.length_set];omega
   obtain ⟨b',off',hA',cells',hb'⟩:=ho'.someA hpos
   rw [hA] at hA'
   cases hA'
   exact ⟨cells',Au.sub (Au.star Hr) hi' _ _ hb'⟩
  obtain ⟨cells',hb3⟩:=hb3
  rw [e,hb3] at hv
  injection hv with hv
  injection hv with hv _
  injection hv with _ hv _
  cases hv
 rw [Hp.put_ne (show W.pb≠(⟨b,off+r.toNat*1,none⟩:Addr).block from hne)] at hv
 exact ⟨v,hv⟩
end
theorem Pl.setG_setG (S:Pl) (g:Int) (x y:Gs):(S.setG g x).setG g y=S.setG g y:=by unfold Pl.setG;simp
structure PSt (W:PW) (σ:Hp) (S:Pl) (ws:Nat->SL):Prop where
 e:EvR σ W.f S.B W.l ws S.G
theorem PSt.sub {W:PW} {σ σ':Hp} {S:Pl} {ws:Nat->SL} (h:PSt W σ S ws) (hs:Hp.Sub σ σ'):PSt W σ' S ws:=⟨h.e.sub hs⟩
structure Agp (q:Grp) (x:Gs):Prop where
 w0:-1<=x.want
 w1:x.want<=q.wants.length
 w2:x.st≠4->x.want<q.wants.length
 w3:x.st≠0->0<=x.want
 s:0<=x.since/\x.since<=5000
 t:0<=x.tokens/\x.tokens<=10000
structure Pl.Ok (S:Pl) (c:Nat):Prop where
 v:Val S.walk S.B S.G
 lg:S.guests.length=S.G.length
 lh:S.homes.length=S.G.length
 lq:S.queues.length=S.B.length
 lb:S.began.length=S.B.length
 le:S.ended.length=S.B.length
 lt:S.takes.length=S.B.length
 ll:S.lines.length=S.B.length
 nw:0<=S.now/\S.now<=5000
 gs:∀ g:Int,0<=g->g<S.G.length->Agp (S.gr g) (S.gu g)
 qn:∀ r:Int,0<=r->r<S.B.length->(S.qu r).Nodup
 qs:∀ r:Int,0<=r->r<S.B.length->∀ g∈S.qu r,0<=g/\g<S.G.length/\(S.gu g).st=2/\gt (S.gr g).wants (S.gu g).want=r
 vl:S.visits.length<=c
 tk:∀ r:Int,0<=r->r<S.B.length->0<=gt S.takes r/\gt S.takes r<=4000*c
 be:∀ r:Int,0<=r->r<S.B.length->-1<=gt S.began r/\gt S.began r<=5000
 en:∀ r:Int,0<=r->r<S.B.length->-1<=gt S.ended r/\gt S.ended r<=5000
def Pl.free (S:Pl) (g:Int):Prop:=∀ r:Int,0<=r->r<S.B.length->g ∉ S.qu r
theorem Val.bt {w:Int} {B:List BthG} {G:List Grp} (h:Val w B G) {r:Int} (r0:0<=r) (r1:r<B.length):(1<=(bd B r).seats/\(bd B r).seats<=40)/\(0<=(bd B r).price/\(bd B r).price<=100)/\(1<=(bd B r).cycle/\(bd B r).cycle<=100)/\(0<=(bd B r).pause/\(bd B r).pause<=100):=by
 have hr:r.toNat<B.length:=by omega
 have e:bd B r=B[r.toNat]:=by unfold bd;simp [List.getD,hr]
 rw [e]
 exact h.b _ (List.getElem_mem hr)
theorem Val.gr {w:Int} {B:List BthG} {G:List Grp} (h:Val w B G) {g:Int} (r0:0<=g) (r1:g<G.length):(0<=(gd G g).came/\(gd G g).came<=2000)/\(1<=(gd G g).size/\(gd G g).size<=40)/\(0<=(gd G g).tokens/\(gd G g).tokens<=10000)/\(gd G g).wants.length<=10/\(0<=(gd G g).patience/\(gd G g).patience<=2000):=by
 have hr:g.toNat<G.length:=by omega
 have e:gd G g=G[g.toNat]:=by unfold gd;simp [List.getD,hr]
 rw [e]
 obtain ⟨a,b,c,d,e,_⟩:=h.g _ (List.getElem_mem hr)
 exact ⟨a,b,c,d,e⟩
section
variable {S:Pl} {c:Nat} {g:Int}
theorem Pl.Ok.mono {c':Nat} (h:S.Ok c) (hc:c<=c'):S.Ok c':={ h with vl:=Nat.le_trans h.vl hc,tk:=fun r r0 r1=>by have:=h.tk r r0 r1;omega }
theorem Pl.Ok.want (h:S.Ok c) (hw:0<=(S.gu g).want) (hw1:(S.gu g).want<(S.gr g).wants.length):0<=gt (S.gr g).wants (S.gu g).want/\gt (S.gr g).wants (S.gu g).want<S.B.length:=h.v.want hw hw1
theorem Pl.Ok.qlen (h:S.Ok c) {r:Int} (r0:0<=r) (r1:r<S.B.length):(S.qu r).length<=60:=
 Nat.le_trans (CZ S.G.length _ (h.qn r r0 r1) fun x hx=>by have:=h.qs r r0 r1 x hx;omega) h.v.n
theorem Pl.Ok.free (h:S.Ok c) (hs:(S.gu g).st≠2):S.free g:=fun r r0 r1 hm=>hs (h.qs r r0 r1 g hm).2.2.1
theorem Pl.Ok.setG (h:S.Ok c) (g0:0<=g) (g1:g<S.G.length) (hf:S.free g) {x:Gs} (hx:Agp (S.gr g) x):(S.setG g x).Ok c:=by
 have hgl:g.toNat<S.guests.length:=by rw [h.lg];omega
 refine { h with lg:=?_,gs:=fun k k0 k1=>?_,qs:=fun r r0 r1 k hk=>?_ }
 ·show (S.guests.set _ _).length=_
  rw [List.length_set];exact h.lg
 ·rw [Pl.gu_setG hgl]
  split
  ·rename_i e
   rw [BB k0 g0] at e
   subst e
   exact hx
  ·exact h.gs k k0 k1
 ·have hk:k∈S.qu r:=hk
  obtain ⟨a,b,d⟩:=h.qs r r0 r1 k hk
  refine ⟨a,b,?_⟩
  rw [Pl.gu_setG hgl,if_neg fun e=>hf r r0 r1 (by rw [BB a g0] at e;rw [← e];exact hk)]
  exact d
theorem Pl.qu_setQ (S:Pl) {r i:Int} {q:List Int} (hr:r.toNat<S.queues.length):(S.setQ r q).qu i=if i.toNat=r.toNat then q else S.qu i:=BY hr
theorem Pl.Ok.setQ (h:S.Ok c) {r:Int} (r0:0<=r) (r1:r<S.B.length) {q:List Int} (hn:q.Nodup) (hq:∀ g∈q,0<=g/\g<S.G.length/\(S.gu g).st=2/\gt (S.gr g).wants (S.gu g).want=r):(S.setQ r q).Ok c:=by
 have hrl:r.toNat<S.queues.length:=by rw [h.lq];omega
 refine { h with lq:=?_,qn:=fun i i0 i1=>?_,qs:=fun i i0 i1=>?_ }
 ·show (S.queues.set _ _).length=_
  rw [List.length_set];exact h.lq
 ·rw [Pl.qu_setQ S hrl]
  split
  ·exact hn
  ·exact h.qn i i0 i1
 ·rw [Pl.qu_setQ S hrl]
  split
  ·rename_i e
   rw [BB i0 r0] at e
   subst e
   exact hq
  ·exact h.qs i i0 i1
theorem Pl.Ok.setH (h:S.Ok c) (t:Int):(S.setH g t).Ok c:={ h with lh:=by show (S.homes.set _ _).length=_;rw [List.length_set];exact h.lh }
theorem Pl.Ok.addV (h:S.Ok c) (x:Vis):(S.addV x).Ok (c+1):={ h with vl:=by show (S.visits++[x]).length<=_;rw [List.length_append];have:=h.vl;exact Nat.add_le_add this (Nat.le_refl 1),tk:=fun r r0 r1=>by have:=h.tk r r0 r1;show 0<=gt S.takes r/\gt S.takes r<=_;omega }
theorem Pl.Ok.stand (h:S.Ok c) (g0:0<=g) (g1:g<S.G.length) (hf:S.free g) (hw:0<=(S.gu g).want) (hw1:(S.gu g).want<(S.gr g).wants.length):(S.stand g).Ok c:=by
 obtain ⟨q0,q1⟩:=h.want hw hw1
 have hg:=h.gs g g0 g1
 have hgl:g.toNat<S.guests.length:=by rw [h.lg];omega
 have h1:=h.setG g0 g1 hf (x:={ S.gu g with st:=2,since:=S.now }) ⟨hg.w0,hg.w1,fun _=>hw1,fun _=>hw,h.nw,hg.t⟩
 refine h1.setQ q0 q1 ?_ ?_
 ·rw [List.nodup_append]
  refine ⟨h.qn _ q0 q1,by simp,fun a ha b hb=>?_⟩
  rw [List.mem_singleton] at hb
  subst hb
  intro e
  subst e
  exact hf _ q0 q1 ha
 ·intro k hk
  rcases List.mem_append.1 hk with hk | hk
  ·exact h1.qs _ q0 q1 k hk
  ·rw [List.mem_singleton] at hk
   subst hk
   rw [Pl.gu_setG hgl,if_pos rfl]
   exact ⟨g0,g1,rfl,rfl⟩
theorem Pl.Ok.on1 (h:S.Ok c) (g0:0<=g) (g1:g<S.G.length) (hf:S.free g) (_hw1:(S.gu g).want<(S.gr g).wants.length) (hw:¬ ((S.gr g).wants.length:Int)<=(S.gu g).want+1):(S.setG g { S.gu g with want:=(S.gu g).want+1,since:=S.now,st:=1 }).Ok c:=by
 have hg:=h.gs g g0 g1
 have:=hg.w0
 exact h.setG g0 g1 hf ⟨by show _<=(S.gu g).want+1;omega,by show (S.gu g).want+1<=_;omega,fun _=>by show (S.gu g).want+1<_;omega,fun _=>by show 0<=(S.gu g).want+1;omega,h.nw,hg.t⟩
theorem Pl.Ok.on (h:S.Ok c) (g0:0<=g) (g1:g<S.G.length) (hf:S.free g) (hw1:(S.gu g).want<(S.gr g).wants.length):(S.on g).Ok c:=by
 have hg:=h.gs g g0 g1
 have hgl:g.toNat<S.guests.length:=by rw [h.lg];omega
 have:=hg.w0
 unfold Pl.on
 split
 ·exact (h.setG g0 g1 hf (x:={ S.gu g with want:=(S.gu g).want+1,since:=S.now,st:=4 }) ⟨by show _<=(S.gu g).want+1;omega,by show (S.gu g).want+1<=_;omega,fun e=>absurd rfl e,fun _=>by show 0<=(S.gu g).want+1;omega,h.nw,hg.t⟩).setH _
 ·rename_i hw
  have h1:=h.on1 g0 g1 hf hw1 hw
  split
  ·refine h1.stand g0 g1 hf ?_ ?_
   ·rw [Pl.gu_setG hgl,if_pos rfl];show 0<=(S.gu g).want+1;omega
   ·rw [Pl.gu_setG hgl,if_pos rfl];show (S.gu g).want+1<((S.gr g).wants.length:Int);omega
  ·exact h1
theorem Pl.Ok.unq (h:S.Ok c) (g0:0<=g) (g1:g<S.G.length) (hs:(S.gu g).st=2) (b:Bool):(S.unq g b).Ok (c+1)/\(S.unq g b).free g:=by
 have hg:=h.gs g g0 g1
 have hw:=hg.w3 (by omega)
 have hw1:=hg.w2 (by omega)
 obtain ⟨q0,q1⟩:=h.want hw hw1
 have hrl:(gt (S.gr g).wants (S.gu g).want).toNat<S.queues.length:=by rw [h.lq];omega
 refine ⟨(h.setQ q0 q1 ((h.qn _ q0 q1).filter _) fun k hk=>h.qs _ q0 q1 k (List.mem_filter.1 hk).1).addV _,?_⟩
 intro r r0 r1 hm
 have hm:g∈(S.setQ (gt (S.gr g).wants (S.gu g).want) ((S.qu (gt (S.gr g).wants (S.gu g).want)).filter fun k=>decide (k≠g))).qu r:=hm
 rw [Pl.qu_setQ S hrl] at hm
 split at hm
 ·have:=(List.mem_filter.1 hm).2
  simp at this
 ·rename_i e
  exact e (by rw [(h.qs r r0 r1 g hm).2.2.2])
theorem Pl.Ok.price (h:S.Ok c) (g0:0<=g) (g1:g<S.G.length) {r:Int} (q0:0<=r) (q1:r<S.B.length):0<=(S.bt r).price*(S.gr g).size/\(S.bt r).price*(S.gr g).size<=4000:=by
 obtain ⟨_,⟨p0,p1⟩,_⟩:=h.v.bt q0 q1
 obtain ⟨_,⟨s0,s1⟩,_⟩:=h.v.gr g0 g1
 refine ⟨Int.mul_nonneg p0 (by show 0<=(gd S.G g).size;omega),?_⟩
 exact Int.le_trans (Int.mul_le_mul p1 s1 (by show 0<=(gd S.G g).size;omega) (by omega)) (by omega)
theorem Pl.Ok.setT (h:S.Ok c) {r t:Int} (r0:0<=r) (r1:r<S.B.length) (h0:0<=t) (h1:t<=4000*c):(S.setT r t).Ok c:=by
 refine { h with lt:=?_,tk:=fun i i0 i1=>?_ }
 ·show (S.takes.set _ _).length=_
  rw [List.length_set];exact h.lt
 ·have hrl:r.toNat<S.takes.length:=by rw [h.lt];omega
  show 0<=gt (S.takes.set r.toNat t) i/\gt (S.takes.set r.toNat t) i<=_
  have e:gt (S.takes.set r.toNat t) i=if i.toNat=r.toNat then t else gt S.takes i:=by unfold gt;exact BY hrl
  rw [e]
  split
  ·exact ⟨h0,h1⟩
  ·exact h.tk i i0 i1
theorem Pl.Ok.leave (h:S.Ok c) (g0:0<=g) (g1:g<S.G.length) (hs:(S.gu g).st=2) {on:Bool} (hp:on=true->S.price g<=(S.gu g).tokens):(S.leave g on).Ok (c+1):=by
 have hg:=h.gs g g0 g1
 have hw:=hg.w3 (by omega)
 have hw1:=hg.w2 (by omega)
 obtain ⟨q0,q1⟩:=h.want hw hw1
 obtain ⟨u1,u2⟩:=h.unq g0 g1 hs on
 obtain ⟨p0,p1⟩:=h.price g0 g1 q0 q1
 have ht:=h.tk _ q0 q1
 unfold Pl.leave
 split
 ·rename_i e
  subst e
  refine (u1.setG g0 g1 u2 (x:={ S.gu g with st:=3,since:=S.now,tokens:=(S.gu g).tokens-S.price g }) ⟨hg.w0,hg.w1,fun _=>hw1,fun _=>hw,h.nw,?_⟩).setT q0 q1 ?_ ?_
  ·have:=hp rfl
   have:=hg.t
   show 0<=(S.gu g).tokens-S.price g/\(S.gu g).tokens-S.price g<=_
   unfold Pl.price at *
   omega
  ·show 0<=gt S.takes _+(S.bt _).price*_
   omega
  ·show gt S.takes _+(S.bt _).price*_<=_
   omega
 ·rename_i e
  have:on=false:=by cases on<;>simp_all
  subst this
  exact u1.on g0 g1 u2 hw1
theorem Pl.Ok.later (h:S.Ok c) {t:Int} (h0:0<=t) (h1:t<=5000):(S.later t).Ok c:={ h with nw:=⟨h0,h1⟩ }
theorem Pl.Ok.setB (h:S.Ok c) {r t:Int} (r0:0<=r) (r1:r<S.B.length) (h0:-1<=t) (h1:t<=5000):(S.setB r t).Ok c:=by
 refine { h with lb:=?_,be:=fun i i0 i1=>?_ }
 ·show (S.began.set _ _).length=_
  rw [List.length_set];exact h.lb
 ·have hrl:r.toNat<S.began.length:=by rw [h.lb];omega
  show -1<=gt (S.began.set r.toNat t) i/\gt (S.began.set r.toNat t) i<=_
  have e:gt (S.began.set r.toNat t) i=if i.toNat=r.toNat then t else gt S.began i:=by unfold gt;exact BY hrl
  rw [e]
  split
  ·exact ⟨h0,h1⟩
  ·exact h.be i i0 i1
theorem Pl.Ok.endK (h:S.Ok c) (k:Nat):(S.endK k).Ok c:=by
 have hb:=h.lb
 have he:=h.le
 have hn:=h.nw
 refine { h with lb:=?_,le:=?_,be:=fun i i0 i1=>?_,en:=fun i i0 i1=>?_ }
 ·show ((List.range _).map _).length=_
  rw [List.length_map,List.length_range];exact hb
 ·show ((List.range _).map _).length=_
  rw [List.length_map,List.length_range];exact he
 ·have i1:i<S.B.length:=i1
  have:=h.be i i0 i1
  show -1<=gt ((List.range _).map _) i/\gt ((List.range _).map _) i<=_
  rw [Hs i0 (by omega)]
  have e:(i.toNat:Int)=i:=by omega
  split
  ·omega
  ·rw [e];exact this
 ·have i1:i<S.B.length:=i1
  have:=h.en i i0 i1
  show -1<=gt ((List.range _).map _) i/\gt ((List.range _).map _) i<=_
  rw [Hs i0 (by omega)]
  have e:(i.toNat:Int)=i:=by omega
  split
  ·omega
  ·rw [e];exact this
theorem Pl.Ok.lineK (h:S.Ok c) (k:Nat):(S.lineK k).Ok c:={ h with ll:=by show ((List.range _).map _).length=_;rw [List.length_map,List.length_range];exact h.ll }
theorem Pl.Ok.init {w:Int} {B:List BthG} {G:List Grp} (hv:Val w B G):(Pl.init w B G).Ok 0:=by
 have hz:∀ (n:Nat) (x r:Int),0<=r->r<n->gt (List.replicate n x) r=x:=fun n x r r0 r1=>by
  have:r.toNat<n:=by omega
  unfold gt
  simp [List.getD,this]
 have hq:∀ r:Int,(Pl.init w B G).qu r=[]:=fun r=>by
  show (List.replicate B.length ([]:List Int)).getD r.toNat []=[]
  simp only [List.getD,List.getElem?_replicate]
  split<;>rfl
 refine { v:=hv,lg:=by simp [Pl.init],lh:=by simp [Pl.init],lq:=by simp [Pl.init],lb:=by simp [Pl.init],le:=by simp [Pl.init],lt:=by simp [Pl.init],ll:=by simp [Pl.init],nw:=⟨by simp [Pl.init],by simp [Pl.init]⟩,gs:=fun g g0 g1=>?_,qn:=fun r _ _=>by rw [hq];exact List.nodup_nil,qs:=fun r _ _ k hk=>by rw [hq] at hk;simp at hk,vl:=by simp [Pl.init],tk:=fun r r0 r1=>?_,be:=fun r r0 r1=>?_,en:=fun r r0 r1=>?_ }
 ·have g1:g<G.length:=g1
  have hg:g.toNat<G.length:=by omega
  have e:(Pl.init w B G).gu g=⟨0,-1,0,(gd G g).tokens⟩:=by
   show (G.map _).getD g.toNat Gs.d=_
   unfold gd
   simp [List.getD,hg]
  rw [e]
  have:=hv.gr g0 g1
  refine ⟨by show (-1:Int)<=-1;omega,by show (-1:Int)<=_;omega,fun _=>by show (-1:Int)<_;omega,fun h=>absurd rfl h,by show (0:Int)<=0/\(0:Int)<=5000;omega,this.2.2.1⟩
 ·show 0<=gt (List.replicate B.length 0) r/\gt (List.replicate B.length 0) r<=_
  rw [hz B.length 0 r r0 r1];omega
 ·show -1<=gt (List.replicate B.length (-1)) r/\gt (List.replicate B.length (-1)) r<=_
  rw [hz B.length (-1) r r0 r1];omega
 ·show -1<=gt (List.replicate B.length (-1)) r/\gt (List.replicate B.length (-1)) r<=_
  rw [hz B.length (-1) r r0 r1];omega
end
structure Pl.Sm (S S':Pl):Prop where
 g:S'.G=S.G
 b:S'.B=S.B
 n:S'.now=S.now
 w:S'.walk=S.walk
theorem Pl.Sm.refl (S:Pl):S.Sm S:=⟨rfl,rfl,rfl,rfl⟩
theorem Pl.Sm.trans {S T U:Pl} (h:S.Sm T) (h':T.Sm U):S.Sm U:=⟨h'.g.trans h.g,h'.b.trans h.b,h'.n.trans h.n,h'.w.trans h.w⟩
theorem Pl.Sm.on (S:Pl) (g:Int):S.Sm (S.on g):=let ⟨a,b,c,_,_,d⟩:=S.on_same g;⟨a,b,c,d⟩
theorem Pl.Sm.stand (S:Pl) (g:Int):S.Sm (S.stand g):=⟨rfl,rfl,rfl,rfl⟩
theorem Pl.Sm.unq (S:Pl) (g:Int) (b:Bool):S.Sm (S.unq g b):=⟨rfl,rfl,rfl,rfl⟩
theorem Pl.Sm.leave (S:Pl) (g:Int) (b:Bool):S.Sm (S.leave g b):=by
 unfold Pl.leave
 split
 ·exact ⟨rfl,rfl,rfl,rfl⟩
 ·exact (Pl.Sm.unq S g false).trans (Pl.Sm.on _ g)
theorem Pl.Sm.endK (S:Pl) (k:Nat):S.Sm (S.endK k):=⟨rfl,rfl,rfl,rfl⟩
theorem Pl.Sm.setB (S:Pl) (r t:Int):S.Sm (S.setB r t):=⟨rfl,rfl,rfl,rfl⟩
theorem Pl.Sm.lineK (S:Pl) (k:Nat):S.Sm (S.lineK k):=⟨rfl,rfl,rfl,rfl⟩
theorem Pl.Sm.gr {S S':Pl} (h:S.Sm S') (g:Int):S'.gr g=S.gr g:=by unfold Pl.gr;rw [h.g]
theorem Pl.Sm.bt {S S':Pl} (h:S.Sm S') (r:Int):S'.bt r=S.bt r:=by unfold Pl.bt;rw [h.b]
theorem PSt.sm {W:PW} {σ:Hp} {S S':Pl} {ws:Nat->SL} (h:PSt W σ S ws) (e:S.Sm S'):PSt W σ S' ws:=⟨by rw [e.g,e.b];exact h.e⟩
theorem Pl.leave_ne {S:Pl} {g k:Int} {b:Bool} (h:k.toNat≠g.toNat):(S.leave g b).gu k=S.gu k:=by
 unfold Pl.leave
 split
 ·show ((S.unq g true).setG g _).gu k=_
  rw [Pl.gu_setG_ne h]
  rfl
 ·exact Pl.quit_ne (S:=S) h
theorem Pl.Ok.off1 {S:Pl} {c:Nat} {g:Int} (h:S.Ok c) (g0:0<=g) (g1:g<S.G.length) (ho:S.off g=true):(S.on g).Ok c:=by
 unfold Pl.off at ho
 simp only [Bool.and_eq_true,decide_eq_true_eq] at ho
 exact h.on g0 g1 (h.free (by omega)) ((h.gs g g0 g1).w2 (by omega))
theorem Pl.Ok.come1 {S:Pl} {c:Nat} {g:Int} (h:S.Ok c) (g0:0<=g) (g1:g<S.G.length):(S.come1 g).Ok c:=by
 have hg:=h.gs g g0 g1
 unfold Pl.come1
 split
 ·rename_i ha
  unfold Pl.comeA at ha
  simp only [Bool.and_eq_true,decide_eq_true_eq] at ha
  exact h.on g0 g1 (h.free (by omega)) (hg.w2 (by omega))
 ·split
  ·rename_i hb
   unfold Pl.comeB at hb
   simp only [Bool.and_eq_true,decide_eq_true_eq] at hb
   exact h.stand g0 g1 (h.free (by omega)) (hg.w3 (by omega)) (hg.w2 (by omega))
  ·exact h
theorem Pl.Sm.come1 (S:Pl) (g:Int):S.Sm (S.come1 g):=by
 unfold Pl.come1
 split
 ·exact Pl.Sm.on S g
 ·split
  ·exact Pl.Sm.stand S g
  ·exact Pl.Sm.refl S
theorem Pl.Ok.quit1 {S:Pl} {c:Nat} {g:Int} (h:S.Ok c) (g0:0<=g) (g1:g<S.G.length) (ho:S.quits g=true):(S.quit g).Ok (c+1):=by
 unfold Pl.quits at ho
 simp only [Bool.and_eq_true,decide_eq_true_eq] at ho
 exact h.leave g0 g1 ho.1 fun e=>by cases e
structure Qv (S:Pl) (r:Int) (q:List Int) (c:Nat):Prop where
 ok:S.Ok c
 nd:q.Nodup
 el:∀ g∈q,0<=g/\g<S.G.length/\(S.gu g).st=2/\gt (S.gr g).wants (S.gu g).want=r
section
variable {S:Pl} {r g:Int} {q:List Int} {c:Nat}
theorem Qv.of (h:S.Ok c) (r0:0<=r) (r1:r<S.B.length):Qv S r (S.qu r) c:=⟨h,h.qn r r0 r1,h.qs r r0 r1⟩
theorem Qv.skip (h:Qv S r (g::q) c):Qv S r q (c+1):=⟨h.ok.mono (by omega),(List.nodup_cons.1 h.nd).2,fun k hk=>h.el k (List.mem_cons_of_mem _ hk)⟩
theorem Qv.leave (h:Qv S r (g::q) c) {b:Bool} (hb:b=true->S.bad r g=false):Qv (S.leave g b) r q (c+1):=by
 obtain ⟨g0,g1,g2,g3⟩:=h.el g (List.mem_cons_self ..)
 obtain ⟨n1,n2⟩:=List.nodup_cons.1 h.nd
 refine ⟨h.ok.leave g0 g1 g2 fun e=>?_,n2,fun k hk=>?_⟩
 ·have hb:=hb e
  unfold Pl.bad at hb
  simp only [Bool.or_eq_false_iff,decide_eq_false_iff_not] at hb
  unfold Pl.price
  rw [g3,Int.mul_comm]
  omega
 ·obtain ⟨k0,k1,k2,k3⟩:=h.el k (List.mem_cons_of_mem _ hk)
  have hne:k.toNat≠g.toNat:=fun e=>n1 (by rw [BB k0 g0] at e;rw [← e];exact hk)
  have sm:=Pl.Sm.leave S g b
  rw [Pl.leave_ne hne,sm.gr,sm.g]
  exact ⟨k0,k1,k2,k3⟩
end
theorem Pl.Ok.sizes {S:Pl} {c:Nat} (h:S.Ok c) {r:Int} (r0:0<=r) (r1:r<S.B.length):∀ k:Nat,k<=(S.qu r).length->0<=Cx (((S.qu r).take k).map fun g=>(S.gr g).size)/\Cx (((S.qu r).take k).map fun g=>(S.gr g).size)<=40*k
 | 0,_=>by simp [Cx]
 | k+1,hk=>by
  have h1:=h.sizes r0 r1 k (by omega)
  have hkl:k<(S.qu r).length:=by omega
  obtain ⟨g0,g1,_⟩:=h.qs r r0 r1 _ (List.getElem_mem hkl)
  have hs:=(h.v.gr g0 g1).2.1
  rw [List.take_succ_eq_append_getElem hkl,List.map_append,QF]
  have e:Cx ([(S.qu r)[k]].map fun g=>(S.gr g).size)=(gd S.G (S.qu r)[k]).size:=by simp [Cx];rfl
  rw [e]
  omega
theorem EvR.gix {σ:Hp} {r l:SL} {B:List BthG} {ws:Nat->SL} {G:List Grp} (h:EvR σ r B l ws G) {g:Int} (g0:0<=g) (g1:g<G.length) {K:Nat->Nat->Prop}
  (hK:∀ b o,σ.cell? ⟨b,o,none⟩=some (aD (gd G g).came)->σ.cell? ⟨b,o+1,none⟩=some (aD (gd G g).size)->σ.cell? ⟨b,o+3,none⟩=some (ws g.toNat).v->σ.cell? ⟨b,o+4,none⟩=some (aD (gd G g).patience)->RdS aM σ (ws g.toNat).A (ws g.toNat).n (gd G g).wants->K b o):ix l.A l.n g 5 K:=by
 obtain ⟨k,rfl⟩:=Int.eq_ofNat_of_zero_le g0
 have hk:k<G.length:=by omega
 have e:gd G (k:Int)=G[k]:=by unfold gd;simp [List.getD,hk]
 rw [e] at hK
 exact h.group hk fun b o c0 c1 _ c3 c4=>hK b o c0 c1 c3 c4 (h.w k hk)
theorem EvR.rix {σ:Hp} {r l:SL} {B:List BthG} {ws:Nat->SL} {G:List Grp} (h:EvR σ r B l ws G) {g:Int} (g0:0<=g) (g1:g<B.length) {K:Nat->Nat->Prop}
  (hK:∀ b o,σ.cell? ⟨b,o,none⟩=some (aD (bd B g).seats)->σ.cell? ⟨b,o+1,none⟩=some (aD (bd B g).price)->σ.cell? ⟨b,o+2,none⟩=some (aD (bd B g).cycle)->σ.cell? ⟨b,o+3,none⟩=some (aD (bd B g).pause)->σ.cell? ⟨b,o+4,none⟩=some (.bool (bd B g).fill)->K b o):ix r.A r.n g 5 K:=by
 obtain ⟨k,rfl⟩:=Int.eq_ofNat_of_zero_le g0
 have hk:k<B.length:=by omega
 have e:bd B (k:Int)=B[k]:=by unfold bd;simp [List.getD,hk]
 rw [e] at hK
 exact h.ride hk hK
theorem QH {p:Int->Bool} {xs:List Int} {k:Nat} (h:k<xs.length):(xs.take (k+1)).filter p=(xs.take k).filter p++(if p xs[k]=true then [xs[k]] else []):=by
 rw [List.take_succ_eq_append_getElem h,List.filter_append]
 congr 1
 simp only [List.filter_cons,List.filter_nil]
section
variable {W:PW} {σ0 σ:Hp} {S:Pl} {ws:Nat->SL} {c:Nat} {g:Int} {b o:Nat} {x:Gs}
theorem AO.gix (h:AO W σ0 σ S) {K:Nat->Nat->Prop} (g0:0<=g) (g1:g.toNat<S.guests.length) (hk:∀ b o,W.gu.A=some ⟨b,o,none⟩->K b (o+g.toNat*4)):ix W.gu.A W.gu.n g 4 K:=by
 obtain ⟨⟨b,o,hA⟩,hn⟩:=h.gA g1
 exact Lu hA g0 (by rw [hn];omega) (hk b o hA)
theorem AO.gI0 (h:AO W σ0 σ S) {K:Int->Prop} (hA:W.gu.A=some ⟨b,o,none⟩) (hg:g.toNat<S.guests.length) (e:S.gu g=x) (hk:K x.st):ldI σ .i64 b (o+g.toNat*4) K:=by
 subst e
 exact AV (h.gcell hA hg (j:=0) (by omega)) hk
theorem AO.gI1 (h:AO W σ0 σ S) {K:Int->Prop} (hA:W.gu.A=some ⟨b,o,none⟩) (hg:g.toNat<S.guests.length) (e:S.gu g=x) (hk:K x.want):ldI σ .i64 b (o+g.toNat*4+1) K:=by
 subst e
 exact AV (h.gcell hA hg (j:=1) (by omega)) hk
theorem AO.gI2 (h:AO W σ0 σ S) {K:Int->Prop} (hA:W.gu.A=some ⟨b,o,none⟩) (hg:g.toNat<S.guests.length) (e:S.gu g=x) (hk:K x.since):ldI σ .i64 b (o+g.toNat*4+2) K:=by
 subst e
 exact AV (h.gcell hA hg (j:=2) (by omega)) hk
theorem AO.gI3 (h:AO W σ0 σ S) {K:Int->Prop} (hA:W.gu.A=some ⟨b,o,none⟩) (hg:g.toNat<S.guests.length) (e:S.gu g=x) (hk:K x.tokens):ldI σ .i64 b (o+g.toNat*4+3) K:=by
 subst e
 exact AV (h.gcell hA hg (j:=3) (by omega)) hk
theorem AO.gS0 (h:AO W σ0 σ S) {n:Int} {K:Hp->Prop} (hA:W.gu.A=some ⟨b,o,none⟩) (hg:g.toNat<S.guests.length) (e:S.gu g=x) (hk:∀ τ,AO W σ0 τ (S.setG g { x with st:=n })->K τ):st σ b (o+g.toNat*4) (aD n) K:=by
 subst e
 obtain ⟨w1,h1⟩:=h.gst (j:=0) (v:=aD n) (x':={ S.gu g with st:=n }) hA hg rfl
 exact ⟨w1,hk _ h1⟩
theorem AO.gS1 (h:AO W σ0 σ S) {n:Int} {K:Hp->Prop} (hA:W.gu.A=some ⟨b,o,none⟩) (hg:g.toNat<S.guests.length) (e:S.gu g=x) (hk:∀ τ,AO W σ0 τ (S.setG g { x with want:=n })->K τ):st σ b (o+g.toNat*4+1) (aD n) K:=by
 subst e
 obtain ⟨w1,h1⟩:=h.gst (j:=1) (v:=aD n) (x':={ S.gu g with want:=n }) hA hg rfl
 exact ⟨w1,hk _ h1⟩
theorem AO.gS2 (h:AO W σ0 σ S) {n:Int} {K:Hp->Prop} (hA:W.gu.A=some ⟨b,o,none⟩) (hg:g.toNat<S.guests.length) (e:S.gu g=x) (hk:∀ τ,AO W σ0 τ (S.setG g { x with since:=n })->K τ):st σ b (o+g.toNat*4+2) (aD n) K:=by
 subst e
 obtain ⟨w1,h1⟩:=h.gst (j:=2) (v:=aD n) (x':={ S.gu g with since:=n }) hA hg rfl
 exact ⟨w1,hk _ h1⟩
theorem AO.gS3 (h:AO W σ0 σ S) {n:Int} {K:Hp->Prop} (hA:W.gu.A=some ⟨b,o,none⟩) (hg:g.toNat<S.guests.length) (e:S.gu g=x) (hk:∀ τ,AO W σ0 τ (S.setG g { x with tokens:=n })->K τ):st σ b (o+g.toNat*4+3) (aD n) K:=by
 subst e
 obtain ⟨w1,h1⟩:=h.gst (j:=3) (v:=aD n) (x':={ S.gu g with tokens:=n }) hA hg rfl
 exact ⟨w1,hk _ h1⟩
theorem Pl.gu_same (hg:g.toNat<S.guests.length):(S.setG g x).gu g=x:=by rw [Pl.gu_setG hg,if_pos rfl]
theorem Pl.setG_len:(S.setG g x).guests.length=S.guests.length:=by show (S.guests.set _ _).length=_;rw [List.length_set]
set_option maxRecDepth 20000 in
theorem Z8 (hS:PSt W σ0 S ws) (h:AO W σ0 σ S) (ok:S.Ok c) (g0:0<=g) (g1:g<S.G.length) (hw0:0<=(S.gu g).want) (hw1:(S.gu g).want<(S.gr g).wants.length):
  Af prog 219 #[.pointer (some ⟨W.pb,0,none⟩),aD g] σ fun v σ'=>v=.tuple #[]/\AO W σ0 σ' (S.stand g):=by
 refine LV _ _ _ _ ?_
 unfold Ee
 obtain ⟨q0,q1⟩:=ok.want hw0 hw1
 have hgl:g.toNat<S.guests.length:=by rw [ok.lg];omega
 have hrl:(gt (S.gr g).wants (S.gu g).want).toNat<S.queues.length:=by rw [ok.lq];omega
 have hql:=ok.qlen q0 q1
 obtain ⟨v,hb⟩:=h.pblk
 have hS1:=hS.sub h.sub
 refine AF (Bf hb rfl (h.gix g0 hgl fun b o hA=>AF (Bf hb rfl (hS1.e.gix g0 g1 fun b9 a10 _ _ c3 _ hwt=>CI c3 (h.gI1 hA hgl rfl (Ch hwt hw0 hw1 (h.gS0 hA hgl rfl fun τ1 h1=>?_)))))))
 obtain ⟨v1,hb1⟩:=h1.pblk
 refine AF (Bu hb1 rfl (h1.gS2 hA (by rw [Pl.setG_len];exact hgl) (Pl.gu_same hgl) fun τ2 h2=>?_))
 rw [Pl.setG_setG] at h2
 obtain ⟨v2,hb2⟩:=h2.pblk
 obtain ⟨b,off,s,s3,hqA,hqn,hcell,ho,⟨v3,hb3⟩,hk⟩:=h2.que (r:=gt (S.gr g).wants (S.gu g).want) hrl
 have hqi:gt (S.gr g).wants (S.gu g).want<(W.q.n:Int):=by
  rw [hqn]
  show _<(S.queues.length:Int)
  omega
 change Aj 3 aM s3 s.A s.n s.c (S.qu (gt (S.gr g).wants (S.gu g).want)) τ2 at ho
 refine AF (AF (Bf hb2 rfl (Lu hqA q0 hqi (CI hcell ⟨Bf hb2 rfl (BX ho (AY ?_ (Lu hqA q0 hqi fun A n c' s5 ho5=>?_))),Bf hb2 rfl (BX ho (AY ?_ (Lu hqA q0 hqi fun A n c' s5 ho5=>?_))),BX ho (AY ?_ (Bf hb3 rfl (Lu hqA q0 hqi fun A n c' s5 ho5=>?_)))⟩))))
 ·show (S.qu _).length+1<=_;omega
 ·obtain ⟨w1,h3⟩:=hk _ ⟨A,n,c'⟩ s5 ho5
  exact ⟨w1,Ai ⟨rfl,h3⟩⟩
 ·show (S.qu _).length+1<=_;omega
 ·obtain ⟨w1,h3⟩:=hk _ ⟨A,n,c'⟩ s5 ho5
  exact ⟨w1,Ai ⟨rfl,h3⟩⟩
 ·show (S.qu _).length+1<=_;omega
 ·obtain ⟨w1,h3⟩:=hk _ ⟨A,n,c'⟩ s5 ho5
  exact ⟨w1,Ai ⟨rfl,h3⟩⟩
set_option maxRecDepth 20000 in
theorem AeC (hS:PSt W σ0 S ws) (h:AO W σ0 σ S) (ok:S.Ok c) (g0:0<=g) (g1:g<S.G.length) (hf:S.free g) (hw1:(S.gu g).want<(S.gr g).wants.length):
  Af prog 218 #[.pointer (some ⟨W.pb,0,none⟩),aD g] σ fun v σ'=>v=.tuple #[]/\AO W σ0 σ' (S.on g):=by
 refine PB _ _ _ _ ?_
 unfold Gw
 have hgl:g.toNat<S.guests.length:=by rw [ok.lg];omega
 have hgl2:∀ x,g.toNat<(S.setG g x).guests.length:=fun x=>by rw [Pl.setG_len];exact hgl
 have hg:=ok.gs g g0 g1
 have hw0:=hg.w0
 have hwl:(S.gr g).wants.length<=10:=(ok.v.gr g0 g1).2.2.2.1
 obtain ⟨v,hb⟩:=h.pblk
 refine AF (Bf hb rfl (h.gix g0 hgl fun b o hA=>h.gI1 hA hgl rfl (AQ (by omega) (h.gS1 hA hgl rfl fun τ1 h1=>?_))))
 obtain ⟨v1,hb1⟩:=h1.pblk
 refine AF (Bu hb1 rfl (h1.gS2 hA (hgl2 _) (Pl.gu_same hgl) fun τ2 h2=>?_))
 rw [Pl.setG_setG] at h2
 obtain ⟨v2,hb2⟩:=h2.pblk
 have hS2:=hS.sub h2.sub
 refine h2.gI1 hA (hgl2 _) (Pl.gu_same hgl) (AF (Bf hb2 rfl (hS2.e.gix g0 g1 fun b9 a10 _ _ c3 _ hwt=>CI c3 ?_)))
 have hwn:(ws g.toNat).n=(S.gr g).wants.length:=hwt.lenI
 refine Az (fun hle=>?_) (fun hle=>?_)
 ·rw [hwn] at hle
  have hle:((S.gr g).wants.length:Int)<=(S.gu g).want+1:=hle
  refine h2.gS0 hA (hgl2 _) (Pl.gu_same hgl) fun t3 h3=>?_
  rw [Pl.setG_setG] at h3
  obtain ⟨v3,hb3⟩:=h3.pblk
  refine AF (Bf hb3 rfl (AF (Bu hb3 rfl (h3.stHo g0 (by show g<(S.homes.length:Int);rw [ok.lh];exact g1) fun t4 h4=>Ai ⟨rfl,?_⟩))))
  rw [Pl.on,if_pos hle]
  exact h4
 ·rw [hwn] at hle
  have hle:¬ ((S.gr g).wants.length:Int)<=(S.gu g).want+1:=hle
  refine h2.gS0 hA (hgl2 _) (Pl.gu_same hgl) fun t3 h3=>?_
  rw [Pl.setG_setG] at h3
  obtain ⟨v3,hb3⟩:=h3.pblk
  refine AF (Bu hb3 rfl (Az (fun e0=>?_) (fun e0=>?_)))
  ·have e0:S.walk=0:=e0
   refine Bd (aW 219) (Z8 (S:=S.setG g { S.gu g with want:=(S.gu g).want+1,since:=S.now,st:=1 }) (hS.sm ⟨rfl,rfl,rfl,rfl⟩) h3 (ok.on1 g0 g1 hf hw1 hle) g0 g1 ?_ ?_) ?_
   ·rw [Pl.gu_same hgl];show 0<=(S.gu g).want+1;omega
   ·rw [Pl.gu_same hgl];show (S.gu g).want+1<((S.gr g).wants.length:Int);omega
   rintro _ σ' ⟨rfl,h4⟩
   refine Ai ⟨rfl,?_⟩
   rw [Pl.on,if_neg hle,if_pos e0]
   exact h4
  ·have e0:¬ S.walk=0:=e0
   refine Ai ⟨rfl,?_⟩
   rw [Pl.on,if_neg hle,if_neg e0]
   exact h3
set_option maxRecDepth 20000 in
theorem AbB (hS:PSt W σ0 S ws) (h:AO W σ0 σ S) (ok:S.Ok c) (hc:c<=3000000) (g0:0<=g) (g1:g<S.G.length) (hs:(S.gu g).st=2) {on:Bool} (hp:on=true->S.price g<=(S.gu g).tokens):
  Af prog 220 #[.pointer (some ⟨W.pb,0,none⟩),aD g,.bool on] σ fun v σ'=>v=.tuple #[]/\AO W σ0 σ' (S.leave g on):=by
 apply L4
 unfold Ei
 have hgl:g.toNat<S.guests.length:=by rw [ok.lg];omega
 have hg:=ok.gs g g0 g1
 have hw0:=hg.w3 (by omega)
 have hw1:=hg.w2 (by omega)
 obtain ⟨q0,q1⟩:=ok.want hw0 hw1
 obtain ⟨u1,u2⟩:=ok.unq g0 g1 hs on
 obtain ⟨p0,p1⟩:=ok.price g0 g1 q0 q1
 have ht:=ok.tk _ q0 q1
 have hrl:(gt (S.gr g).wants (S.gu g).want).toNat<S.queues.length:=by rw [ok.lq];omega
 have hql:=ok.qlen q0 q1
 have hvl:=ok.vl
 obtain ⟨v,hb⟩:=h.pblk
 have hS1:=hS.sub h.sub
 refine AF (Bf hb rfl (h.gix g0 hgl fun b o hA=>AF (Bf hb rfl (hS1.e.gix g0 g1 fun b9 a10 _ _ c3 _ hwt=>CI c3 (h.gI1 hA hgl rfl (Ch hwt hw0 hw1 ?_))))))
 change cut _ _
 generalize hr:gt (gd S.G g).wants (S.gu g).want=r
 have hr':gt (S.gr g).wants (S.gu g).want=r:=hr
 rw [hr'] at q0 q1 hrl hql ht p0 p1
 refine Ad fun J18 h18=>?_
 have k18:∀ (A:aA) (l cc:Nat) (sa τ:Hp),AO W σ0 sa S->Aj 3 aM sa A l cc ((S.qu r).filter fun k:Int=>decide (k≠g)) τ->J18 A l cc τ:=by
  intro A l cc sa τ ha hl
  rw [h18]
  intro _
  obtain ⟨b2,off,s,s3,hqA,hqn,hcell,ho,_,hk⟩:=ha.que hrl
  have hqi:r<(W.q.n:Int):=by rw [hqn];omega
  obtain ⟨s3',s1,s2⟩:=Aj.swap ho hl
  obtain ⟨w1,h3⟩:=hk _ ⟨A,l,cc⟩ s3' s1
  obtain ⟨v1,hb1⟩:=(ha.up hl.sub).pblk
  have hsub:=s2.sub
  obtain ⟨cw,ew,hbw,_,_⟩:=id w1
  have h3:=h3.up (Qg hsub hbw _)
  refine AF (Bf hb1 rfl (Lu hqA q0 hqi ⟨Rr w1 hsub,?_⟩))
  obtain ⟨v2,s4,hb2,ho2,hk2⟩:=h3.vis
  change Aj 75 sV s4 v2.A v2.n v2.c S.visits _ at ho2
  refine AF (Bf hb2 rfl (h3.gI1 hA hgl rfl (h3.gI2 hA hgl rfl (AF (Bu hb2 rfl (BX ho2 (AY ?_ (AF fun A38 l38 c38 s39 ho39=>?_))))))))
  ·show S.visits.length+1<=_;omega
  obtain ⟨w4,h4⟩:=hk2 _ ⟨A38,l38,c38⟩ s39 ho39
  refine ⟨w4,?_⟩
  have e4:({ S.setQ r ((S.qu r).filter fun k:Int=>decide (k≠g)) with visits:=S.visits++[(g,(S.gu g).want,r,on,(S.gu g).since,S.now)] }:Pl)=S.unq g on:=by
   unfold Pl.unq
   rw [hr']
   rfl
  have h4:AO W σ0 _ (S.unq g on):=e4▸h4
  have hgl4:g.toNat<(S.unq g on).guests.length:=hgl
  have hgl5:∀ x,g.toNat<((S.unq g on).setG g x).guests.length:=fun x=>by rw [Pl.setG_len];exact hgl
  refine BO (fun eo=>?_) (fun eo=>?_)
  ·have eo:on=false:=by simpa using eo
   subst eo
   refine Bd (aW 218) (AeC (S:=S.unq g false) (hS.sm (Pl.Sm.unq S g false)) h4 u1 g0 g1 u2 hw1) ?_
   rintro _ σ' ⟨rfl,h5⟩
   refine Ai ⟨rfl,?_⟩
   rw [Pl.leave,if_neg (by simp)]
   exact h5
  ·have eo:on=true:=by simpa using eo
   subst eo
   have hp:=hp rfl
   have hpe:S.price g=(bd S.B r).price*(gd S.G g).size:=by unfold Pl.price;rw [hr'];rfl
   have hp0:0<=(bd S.B r).price*(gd S.G g).size:=p0
   have hp1:(bd S.B r).price*(gd S.G g).size<=4000:=p1
   have htk:=hg.t
   refine h4.gS0 hA hgl4 rfl fun t5 h5=>?_
   obtain ⟨v5,hb5⟩:=h5.pblk
   refine AF (Bu hb5 rfl (h5.gS2 hA (hgl5 _) (Pl.gu_same hgl4) fun t6 h6=>?_))
   rw [Pl.setG_setG] at h6
   obtain ⟨v6,hb6⟩:=h6.pblk
   have hS6:=hS.sub h6.sub
   refine h6.gI3 hA (hgl5 _) (Pl.gu_same hgl4) (AF (Bf hb6 rfl (hS6.e.rix q0 q1 fun b52 a53 _ d1 _ _ _=>AV d1 (AF (Bf hb6 rfl (hS6.e.gix g0 g1 fun b58 a59 _ d2 _ _ _=>AV d2 (AQ (by omega) (AQ ?_ (h6.gS3 hA (hgl5 _) (Pl.gu_same hgl4) fun t7 h7=>?_)))))))))
   ·show _<=(S.gu g).tokens-_/\(S.gu g).tokens-_<=_
    omega
   rw [Pl.setG_setG] at h7
   obtain ⟨v7,hb7⟩:=h7.pblk
   have hS7:=hS.sub h7.sub
   have htl:r<(S.takes.length:Int):=by rw [ok.lt];exact q1
   refine AF (Bf hb7 rfl (Ch h7.ird.2.2.1 q0 htl (AF (Bf hb7 rfl (hS7.e.rix q0 q1 fun b73 a74 _ d1 _ _ _=>AV d1 (AF (Bf hb7 rfl (hS7.e.gix g0 g1 fun b79 a80 _ d2 _ _ _=>AV d2 (AQ (by omega) (AQ ?_ (h7.stTa q0 htl fun t8 h8=>Ai ⟨rfl,?_⟩)))))))))))
   ·show _<=gt S.takes r+_/\gt S.takes r+_<=_
    omega
   ·rw [Pl.leave,if_pos rfl,hr',hpe]
    exact h8
 refine ⟨fun n A l cc i τ=>∃ (k:Nat) (sa:Hp),n=(S.qu r).length-k/\i=k/\k<=(S.qu r).length/\AO W σ0 sa S/\Aj 3 aM sa A l cc (((S.qu r).take k).filter fun k:Int=>decide (k≠g)) τ,⟨_,0,σ,rfl,rfl,by omega,h,Aj.nil ..⟩,?_⟩
 rintro n A l cc i τ ⟨k,sa,rfl,rfl,hk,ha,hl⟩ _
 have hτ:=ha.up hl.sub
 obtain ⟨v1,hb1⟩:=hτ.pblk
 obtain ⟨b2,off,s,s3,hqA,hqn,hcell,ho,_,_⟩:=hτ.que hrl
 have hqi:r<(W.q.n:Int):=by rw [hqn];omega
 have hsn:s.n=(S.qu r).length:=ho.len
 refine AF (Bf hb1 rfl (Lu hqA q0 hqi (CI hcell ?_)))
 refine Az (fun hlt=>?_) (fun hlt=>?_)
 ·have hkl:k<(S.qu r).length:=by omega
  have hfs:=QH (p:=fun x=>decide (x≠g)) hkl
  refine Ad fun J101 h101=>?_
  have k101:∀ (A:aA) (l cc:Nat) (t':Hp),Aj 3 aM sa A l cc (((S.qu r).take (k+1)).filter fun k:Int=>decide (k≠g)) t'->J101 A l cc t':=by
   intro A l cc t' hl'
   rw [h101]
   intro _
   exact AQ (by omega) (AX _ (by omega) ⟨k+1,sa,rfl,by omega,by omega,ha,hl'⟩)
  have hgk:gt (S.qu r) k=(S.qu r)[k]:=BJ hkl
  refine AF (Bf hb1 rfl (Lu hqA q0 hqi (CI hcell (Ch ho.rd (by omega) (by omega) ?_))))
  rw [hgk]
  refine BO (fun e=>?_) (fun e=>?_)
  ·have e:(S.qu r)[k]≠g:=by simpa using e
   rw [if_pos (by simpa using e)] at hfs
   refine AF (Bf hb1 rfl (Lu hqA q0 hqi (CI hcell (Ch ho.rd (by omega) (by omega) (BX hl (AY ?_ fun A n c' t' hl'=>k101 _ _ _ _ ?_))))))
   ·have:(((S.qu r).take k).filter fun k:Int=>decide (k≠g)).length<=(S.qu r).length:=Nat.le_trans (List.length_filter_le ..) (by rw [List.length_take];omega)
    show (List.filter _ _).length+1<=_
    omega
   ·rw [hgk] at hl'
    exact (congrArg (fun z:List Int=>Aj 3 aM sa A n c' z t') hfs).mpr hl'
  ·have e:¬ (S.qu r)[k]≠g:=by simpa using e
   rw [if_neg (by simpa using e),List.append_nil] at hfs
   exact k101 _ _ _ _ ((congrArg (fun z:List Int=>Aj 3 aM sa A l cc z τ) hfs).mpr hl)
 ·have:k=(S.qu r).length:=by omega
  subst this
  rw [List.take_length] at hl
  exact k18 _ _ _ _ _ ha hl
end
theorem QC {f:Pl->Int->Pl} {d:Nat} {S:Pl} {c:Nat} (h:S.Ok c):∀ n:Nat,(∀ (T:Pl) (c':Nat),T.Ok c'->S.Sm T->∀ k:Nat,k<n->(f T k).Ok (c'+d)/\T.Sm (f T k))->((BA n).foldl f S).Ok (c+n*d)/\S.Sm ((BA n).foldl f S)
 | 0,_=>⟨by simpa [BA] using h,Pl.Sm.refl S⟩
 | n+1,hf=>by
  obtain ⟨h1,h2⟩:=QC h n fun T c' t1 t2 k hk=>hf T c' t1 t2 k (by omega)
  obtain ⟨h3,h4⟩:=hf _ _ h1 h2 n (by omega)
  rw [NN,List.foldl_append]
  refine ⟨?_,h2.trans h4⟩
  have e:c+(n+1)*d=c+n*d+d:=by rw [Nat.add_mul];omega
  rw [e]
  exact h3
theorem RX {f:Pl->Int->Pl} {S:Pl} {n:Nat}:(BA (n+1)).foldl f S=f ((BA n).foldl f S) n:=by rw [NN,List.foldl_append];rfl
def Pl.off1 (S:Pl) (g:Int):Pl:=if S.off g=true then S.on g else S
def Pl.quit1 (S:Pl) (g:Int):Pl:=if S.quits g=true then S.quit g else S
theorem Pl.end_eq (S:Pl):S.end_=(BA S.G.length).foldl Pl.off1 (S.endK S.B.length):=rfl
theorem Pl.leaves_eq (S:Pl):S.leaves=(BA S.G.length).foldl Pl.quit1 S:=rfl
section
variable {S:Pl} {c:Nat}
theorem Pl.Ok.off2 (h:S.Ok c) {g:Int} (g0:0<=g) (g1:g<S.G.length):(S.off1 g).Ok c/\S.Sm (S.off1 g):=by
 unfold Pl.off1
 split
 ·rename_i e
  exact ⟨h.off1 g0 g1 e,Pl.Sm.on S g⟩
 ·exact ⟨h,Pl.Sm.refl S⟩
theorem Pl.Ok.quit2 (h:S.Ok c) {g:Int} (g0:0<=g) (g1:g<S.G.length):(S.quit1 g).Ok (c+1)/\S.Sm (S.quit1 g):=by
 unfold Pl.quit1
 split
 ·rename_i e
  exact ⟨h.quit1 g0 g1 e,Pl.Sm.leave S g false⟩
 ·exact ⟨h.mono (by omega),Pl.Sm.refl S⟩
theorem Pl.Ok.endF (h:S.Ok c) {n:Nat} (hn:n<=S.G.length):((BA n).foldl Pl.off1 (S.endK S.B.length)).Ok c/\S.Sm ((BA n).foldl Pl.off1 (S.endK S.B.length)):=by
 have:=QC (f:=Pl.off1) (d:=0) (h.endK S.B.length) n fun T c' t1 t2 k hk=>t1.off2 (by omega) (by rw [t2.g];show (k:Int)<(S.G.length:Int);omega)
 exact ⟨by simpa using this.1,(Pl.Sm.endK S _).trans this.2⟩
theorem Pl.Ok.comeF (h:S.Ok c) {n:Nat} (hn:n<=S.G.length):((BA n).foldl Pl.come1 S).Ok c/\S.Sm ((BA n).foldl Pl.come1 S):=by
 have:=QC (f:=Pl.come1) (d:=0) h n fun T c' t1 t2 k hk=>⟨t1.come1 (by omega) (by rw [t2.g];omega),Pl.Sm.come1 T k⟩
 simpa using this
theorem Pl.Ok.quitF (h:S.Ok c) {n:Nat} (hn:n<=S.G.length):((BA n).foldl Pl.quit1 S).Ok (c+n)/\S.Sm ((BA n).foldl Pl.quit1 S):=by
 have:=QC (f:=Pl.quit1) (d:=1) h n fun T c' t1 t2 k hk=>t1.quit2 (by omega) (by rw [t2.g];omega)
 simpa using this
theorem Zq (r g:Int) (q:List Int) (left:Int) (T:Pl):BU r (g::q) left T=if T.bad r g=true then BU r q left (T.leave g false)
  else if (T.gr g).size<=left then BU r q (left-(T.gr g).size) (T.leave g true)
  else if (T.bt r).fill=true then BU r q left T
  else (T,left):=rfl
theorem P7 {r:Int}:∀ (q:List Int) (left:Int) (T:Pl) (c:Nat),Qv T r q c->(BU r q left T).1.Ok (c+q.length)/\T.Sm (BU r q left T).1
 | [],left,T,c,h=>⟨by simpa [BU] using h.ok,Pl.Sm.refl T⟩
 | g::q,left,T,c,h=>by
  have el:c+(g::q).length=c+1+q.length:=by rw [List.length_cons];omega
  rw [el]
  unfold BU
  split
  ·obtain ⟨h1,h2⟩:=P7 q left _ _ (h.leave (b:=false) fun e=>by cases e)
   exact ⟨h1,(Pl.Sm.leave T g false).trans h2⟩
  ·rename_i hb
   split
   ·obtain ⟨h1,h2⟩:=P7 q (left-(T.gr g).size) _ _ (h.leave (b:=true) fun _=>by simpa using hb)
    exact ⟨h1,(Pl.Sm.leave T g true).trans h2⟩
   ·split
    ·exact P7 q left _ _ h.skip
    ·exact ⟨h.ok.mono (by omega),Pl.Sm.refl T⟩
theorem Pl.Ok.begin (h:S.Ok c) {r:Int} (r0:0<=r) (r1:r<S.B.length):(S.begin r).Ok (c+60)/\S.Sm (S.begin r):=by
 obtain ⟨h1,h2⟩:=P7 (S.qu r) (S.bt r).seats S c (Qv.of h r0 r1)
 have hq:=h.qlen r0 r1
 have hn:=h.nw
 unfold Pl.begin
 split
 ·exact ⟨h.mono (by omega),Pl.Sm.refl S⟩
 ·split
  ·exact ⟨(h1.mono (by omega)).setB r0 (by rw [h2.b];exact r1) (by omega) hn.2,h2.trans (Pl.Sm.setB _ _ _)⟩
  ·exact ⟨h1.mono (by omega),h2⟩
theorem Pl.begins_succ {k:Nat}:S.begins (k+1)=(S.begins k).begin k:=EA (f:=fun (S:Pl) (r:Nat)=>S.begin r) (b:=S) (k:=k)
theorem Pl.Ok.beginF (h:S.Ok c):∀ n:Nat,n<=S.B.length->(S.begins n).Ok (c+n*60)/\S.Sm (S.begins n)
 | 0,_=>⟨by simpa [Pl.begins] using h,Pl.Sm.refl S⟩
 | n+1,hn=>by
  obtain ⟨h1,h2⟩:=h.beginF n (by omega)
  obtain ⟨h3,h4⟩:=h1.begin (r:=n) (by omega) (by rw [h2.b];omega)
  rw [Pl.begins_succ]
  refine ⟨?_,h2.trans h4⟩
  have e:c+(n+1)*60=c+n*60+60:=by omega
  rw [e]
  exact h3
theorem Pl.Ok.rest (h:S.Ok c):S.rest.Ok (c+60)/\S.Sm S.rest:=by
 obtain ⟨h1,h2⟩:=h.endF (Nat.le_refl _)
 rw [← Pl.end_eq] at h1 h2
 obtain ⟨h3,h4⟩:=h1.comeF (Nat.le_refl _)
 change S.end_.Sm S.end_.come at h4
 obtain ⟨h5,h6⟩:=Pl.Ok.quitF (S:=S.end_.come) h3 (Nat.le_refl _)
 refine ⟨?_,h2.trans (h4.trans h6)⟩
 have hn:=h.v.n
 have e:S.end_.come.G.length=S.G.length:=by rw [(h2.trans h4).g]
 refine Pl.Ok.mono (c:=c+S.end_.come.G.length) ?_ (by omega)
 exact h5
theorem Pl.Ok.tick (h:S.Ok c):S.tick.Ok (c+540)/\S.Sm S.tick:=by
 obtain ⟨h1,h2⟩:=h.rest
 obtain ⟨h3,h4⟩:=h1.beginF S.B.length (by rw [h2.b];omega)
 have hm:=h.v.m
 exact ⟨(h3.lineK S.B.length).mono (by omega),h2.trans (h4.trans (Pl.Sm.lineK _ _))⟩
theorem TT {xs:List Int} {f:Nat->Int} (h:∀ i,i<xs.length->f i=gt xs i):(List.range xs.length).map f=xs:=by
 apply List.ext_getElem
 ·simp
 ·intro i h1 h2
  rw [List.getElem_map,List.getElem_range,h i h2,BJ h2]
theorem NE {n k:Nat} {f f':Nat->Int} {v:Int} (_hk:k<n) (h:∀ i,i<n->i≠k->f' i=f i) (hv:f' k=v):(List.range n).map f'=((List.range n).map f).set k v:=by
 apply List.ext_getElem
 ·simp
 ·intro i h1 h2
  have hi:i<n:=by simpa using h1
  rw [List.getElem_map,List.getElem_range,List.getElem_set]
  split
  ·rename_i e
   subst e
   exact hv
  ·rename_i e
   rw [List.getElem_map,List.getElem_range]
   exact h i hi fun e'=>e e'.symm
theorem Pl.endK_zero (S:Pl):S.endK 0=S:=by
 unfold Pl.endK
 rw [TT (xs:=S.began) fun i _=>if_neg fun h=>by omega,TT (xs:=S.ended) fun i _=>if_neg fun h=>by omega]
theorem Pl.endK_no (S:Pl) {k:Nat} (h:S.ends k=false):S.endK (k+1)=S.endK k:=by
 have:∀ (i:Nat) (a b:Int),(if i<k+1/\S.ends i=true then a else b)=if i<k/\S.ends i=true then a else b:=fun i a b=>by
  by_cases e:i=k
  ·subst e
   rw [if_neg (by simp [h]),if_neg (by simp [h])]
  ·by_cases e2:i<k
   ·by_cases e3:S.ends i=true
    ·rw [if_pos ⟨by omega,e3⟩,if_pos ⟨e2,e3⟩]
    ·rw [if_neg (fun h=>e3 h.2),if_neg (fun h=>e3 h.2)]
   ·rw [if_neg (fun h=>by omega),if_neg (fun h=>by omega)]
 unfold Pl.endK
 simp only [this]
theorem Pl.endK_yes (S:Pl) {k:Nat} (h:S.ends k=true) (hb:k<S.began.length) (he:k<S.ended.length):S.endK (k+1)={ S.endK k with began:=(S.endK k).began.set k (-1),ended:=(S.endK k).ended.set k S.now }:=by
 have h1:∀ (i:Nat) (a b:Int),i≠k->(if i<k+1/\S.ends i=true then a else b)=if i<k/\S.ends i=true then a else b:=fun i a b e=>by
  by_cases e2:i<k
  ·by_cases e3:S.ends i=true
   ·rw [if_pos ⟨by omega,e3⟩,if_pos ⟨e2,e3⟩]
   ·rw [if_neg (fun h=>e3 h.2),if_neg (fun h=>e3 h.2)]
  ·rw [if_neg (fun h=>by omega),if_neg (fun h=>by omega)]
 unfold Pl.endK
 rw [NE (k:=k) (f:=fun i:Nat=>if i<k/\S.ends i=true then -1 else gt S.began i) (v:=-1) hb (fun i _ e=>h1 i _ _ e) (if_pos ⟨by omega,h⟩),NE (k:=k) (f:=fun i:Nat=>if i<k/\S.ends i=true then S.now else gt S.ended i) (v:=S.now) he (fun i _ e=>h1 i _ _ e) (if_pos ⟨by omega,h⟩)]
theorem Pl.endK_began (S:Pl) {k:Nat} (h:k<S.began.length):gt (S.endK k).began k=gt S.began k:=by
 show gt ((List.range _).map _) (k:Int)=_
 rw [Hs (by omega) (by omega)]
 exact if_neg fun h=>by
  have:=h.1
  simp at this
theorem Pl.lineK_zero (S:Pl):S.lineK 0=S:=by
 unfold Pl.lineK
 rw [TT (xs:=S.lines) fun i _=>if_neg fun h=>by omega]
theorem Pl.lineK_succ (S:Pl) {k:Nat} (h:k<S.lines.length):S.lineK (k+1)={ S.lineK k with lines:=(S.lineK k).lines.set k (if gt S.lines k<S.guests1 k then S.guests1 k else gt S.lines k) }:=by
 unfold Pl.lineK
 rw [NE (k:=k) (f:=fun i:Nat=>if i<k then (if gt S.lines i<S.guests1 i then S.guests1 i else gt S.lines i) else gt S.lines i) h (fun i _ e=>?_) (if_pos (by omega))]
 by_cases e2:i<k
 ·rw [if_pos (show i<k+1 by omega),if_pos e2]
 ·rw [if_neg (show ¬ i<k+1 by omega),if_neg e2]
theorem Pl.lineK_lines (S:Pl) {k:Nat} (h:k<S.lines.length):gt (S.lineK k).lines k=gt S.lines k:=by
 show gt ((List.range _).map _) (k:Int)=_
 rw [Hs (by omega) (by omega)]
 exact if_neg (by simp)
end
section
variable {W:PW} {σ0 σ:Hp} {S:Pl} {ws:Nat->SL} {c:Nat} {g:Int}
theorem T2 (hS:PSt W σ0 S ws) (h:AO W σ0 σ S) (ok:S.Ok c) (hc:c<=3000000) (g0:0<=g) (g1:g<S.G.length) (hs:(S.gu g).st=2) {on:Bool} (hp:on=true->S.price g<=(S.gu g).tokens) {K:aB} (hk:∀ v σ',AO W σ0 σ' (S.leave g on)->K v σ'):
  aC 220 #[.pointer (some ⟨W.pb,0,none⟩),aD g,.bool on] σ K:=
 Bd (aW 220) (AbB hS h ok hc g0 g1 hs hp) fun v σ' h=>hk v σ' h.2
theorem Age (hS:PSt W σ0 S ws) (h:AO W σ0 σ S) (ok:S.Ok c) (g0:0<=g) (g1:g<S.G.length) (hf:S.free g) (hw1:(S.gu g).want<(S.gr g).wants.length) {K:aB} (hk:∀ v σ',AO W σ0 σ' (S.on g)->K v σ'):
  aC 218 #[.pointer (some ⟨W.pb,0,none⟩),aD g] σ K:=
 Bd (aW 218) (AeC hS h ok g0 g1 hf hw1) fun v σ' h=>hk v σ' h.2
theorem AdB (hS:PSt W σ0 S ws) (h:AO W σ0 σ S) (ok:S.Ok c) (g0:0<=g) (g1:g<S.G.length) (hw0:0<=(S.gu g).want) (hw1:(S.gu g).want<(S.gr g).wants.length) {K:aB} (hk:∀ v σ',AO W σ0 σ' (S.stand g)->K v σ'):
  aC 219 #[.pointer (some ⟨W.pb,0,none⟩),aD g] σ K:=
 Bd (aW 219) (Z8 hS h ok g0 g1 hw0 hw1) fun v σ' h=>hk v σ' h.2
set_option maxRecDepth 20000 in
theorem AeS {r:Int} (hS:PSt W σ0 S ws) (h:AO W σ0 σ S) (ok:S.Ok c) (hc:c<=2900000) (r0:0<=r) (r1:r<S.B.length):
  Af prog 221 #[.pointer (some ⟨W.pb,0,none⟩),aD r] σ fun v σ'=>v=.bool (decide ((BU r (S.qu r) (S.bt r).seats S).2<(S.bt r).seats))/\AO W σ0 σ' (BU r (S.qu r) (S.bt r).seats S).1:=by
 refine Ml _ _ _ _ ?_
 unfold Ff
 have hrl:r.toNat<S.queues.length:=by rw [ok.lq];omega
 have hql:=ok.qlen r0 r1
 obtain ⟨⟨s0,s1⟩,⟨p0,p1⟩,_⟩:=ok.v.bt r0 r1
 obtain ⟨v,hb⟩:=h.pblk
 have hS1:=hS.sub h.sub
 obtain ⟨b2,off,s,s3,hqA,hqn,hcell,ho,_,_⟩:=h.que hrl
 have hqi:r<(W.q.n:Int):=by rw [hqn];omega
 refine AF (Bf hb rfl (hS1.e.rix r0 r1 fun b4 a5 d0 d1 d2 d3 d4=>AV d0 (AV d1 (AV d2 (AV d3 (YS d4 (AF (Bf hb rfl (Lu hqA r0 hqi (CI hcell ⟨S.qu r,ho.rd,AY (by show 0+(S.qu r).length<=_;omega) ?_⟩))))))))))
 have hbt:S.bt r=bd S.B r:=rfl
 rw [hbt]
 have hfo:=Qv.of ok r0 r1
 generalize S.qu r=line at *
 refine Ad fun J20 h20=>?_
 have k20:∀ (left:Int) (τ:Hp) (T:Pl),BU r line (bd S.B r).seats S=(T,left)->AO W σ0 τ T->J20 left τ:=by
  intro left τ T he ht
  rw [h20]
  intro _
  rw [he]
  exact Ai ⟨rfl,ht⟩
 refine ⟨fun n left i τ=>∃ (k:Nat) (T:Pl),n=line.length-k/\i=k/\k<=line.length/\S.Sm T/\Qv T r (line.drop k) (c+k)/\BU r (line.drop k) left T=BU r line (bd S.B r).seats S/\AO W σ0 τ T/\0<=left/\left<=40,⟨_,0,S,rfl,rfl,by omega,Pl.Sm.refl S,hfo,rfl,h,by omega,by omega⟩,?_⟩
 rintro n left i τ ⟨k,T,rfl,rfl,hk,sm,fo,he,ht,hl0,hl1⟩ _
 refine Az (fun hlt=>?_) (fun hlt=>?_)
 ·have hkl:k<line.length:=by
   have:(k:Int)<(line.length:Int):=hlt
   omega
  rw [List.drop_eq_getElem_cons hkl] at fo he
  refine Ad fun J30 h30=>?_
  have k30:∀ (left':Int) (t':Hp) (T':Pl),S.Sm T'->Qv T' r (line.drop (k+1)) (c+k+1)->BU r (line.drop (k+1)) left' T'=BU r line (bd S.B r).seats S->AO W σ0 t' T'->0<=left'->left'<=40->J30 left' t':=by
   intro left' t' T' a1 a2 a3 a4 a5 a6
   rw [h30]
   intro _
   exact AQ (by omega) (AX _ (by omega) ⟨k+1,T',rfl,by omega,by omega,a1,a2,a3,a4,a5,a6⟩)
  refine ⟨by omega,hlt,JC (xs:=line) (by omega) (by omega) ?_⟩
  rw [BJ hkl]
  generalize line[k]=g at *
  obtain ⟨g0,g1,gs,gw⟩:=fo.el g (List.mem_cons_self ..)
  have hgl:g.toNat<T.guests.length:=by rw [fo.ok.lg];omega
  obtain ⟨v1,hb1⟩:=ht.pblk
  have hT:=hS.sm sm
  have hT1:=hT.sub ht.sub
  obtain ⟨z0,z1⟩:=(fo.ok.v.gr g0 g1).2.1
  have htk:=(fo.ok.gs g g0 g1).t
  refine AF (Bf hb1 rfl (hT1.e.gix g0 g1 fun b39 a40 _ e1 _ _ _=>AV e1 ?_))
  have hm0:0<=(gd T.G g).size*(bd S.B r).price:=Int.mul_nonneg (by omega) p0
  have hm1:(gd T.G g).size*(bd S.B r).price<=4000:=Int.le_trans (Int.mul_le_mul z1 p1 p0 (by omega)) (by omega)
  have hbad:T.bad r g=(decide ((bd S.B r).seats<(gd T.G g).size)||decide ((T.gu g).tokens<(gd T.G g).size*(bd S.B r).price)):=by
   unfold Pl.bad
   rw [sm.bt]
   rfl
  refine Ad fun J44 h44=>?_
  have k44:J44 (T.bad r g) τ:=by
   rw [h44]
   intro _
   rw [Zq] at he
   refine BO (fun eb=>?_) (fun eb=>?_)
   ·rw [if_pos eb] at he
    exact T2 hT ht fo.ok (by omega) g0 g1 gs (fun e=>by cases e) fun v σ' h'=>k30 _ _ _ (sm.trans (Pl.Sm.leave T g false)) (fo.leave fun e=>by cases e) he h' hl0 hl1
   ·rw [if_neg (by simp [eb])] at he
    refine Az (fun hsz=>?_) (fun hsz=>?_)
    ·have hsz':(T.gr g).size<=left:=hsz
     rw [if_pos hsz'] at he
     refine AQ (by omega) ?_
     refine T2 hT ht fo.ok (by omega) g0 g1 gs (on:=true) (fun _=>?_) fun v σ' h'=>k30 _ _ _ (sm.trans (Pl.Sm.leave T g true)) (fo.leave fun _=>eb) he h' (by show 0<=left-(gd T.G g).size;omega) (by show left-(gd T.G g).size<=40;omega)
     rw [hbad] at eb
     simp only [Bool.or_eq_false_iff,decide_eq_false_iff_not] at eb
     have:T.price g=(bd S.B r).price*(gd T.G g).size:=by
      unfold Pl.price
      rw [gw,sm.bt]
      rfl
     rw [this,Int.mul_comm]
     omega
    ·have hsz':¬ (T.gr g).size<=left:=hsz
     rw [if_neg hsz',sm.bt,hbt] at he
     refine BO (fun ef=>?_) (fun ef=>?_)
     ·have ef:¬ (bd S.B r).fill=true:=by simpa using ef
      rw [if_neg ef] at he
      rw [← he]
      exact Ai ⟨rfl,ht⟩
     ·have ef:(bd S.B r).fill=true:=by simpa using ef
      rw [if_pos ef] at he
      exact k30 _ _ _ sm fo.skip he ht hl0 hl1
  refine Az (fun hs=>?_) (fun hs=>?_)
  ·rw [hbad,decide_eq_true hs,Bool.true_or] at k44
   exact k44
  ·refine AF (Bf hb1 rfl (ht.gix g0 hgl fun b o hA=>ht.gI3 hA hgl rfl (AQ (by omega) ?_)))
   rw [hbad,decide_eq_false hs,Bool.false_or] at k44
   exact k44
 ·have hlt:¬ (k:Int)<(line.length:Int):=hlt
  have:k=line.length:=by omega
  subst this
  rw [List.drop_length] at he
  exact k20 _ _ _ he.symm ht
end
section
variable {W:PW} {σ0 σ:Hp} {S:Pl} {ws:Nat->SL} {c:Nat} {g:Int}
theorem Ae5 {r:Int} (hS:PSt W σ0 S ws) (h:AO W σ0 σ S) (ok:S.Ok c) (hc:c<=2900000) (r0:0<=r) (r1:r<S.B.length) {K:aB} (hk:∀ σ',AO W σ0 σ' (BU r (S.qu r) (S.bt r).seats S).1->K (.bool (decide ((BU r (S.qu r) (S.bt r).seats S).2<(S.bt r).seats))) σ'):
  aC 221 #[.pointer (some ⟨W.pb,0,none⟩),aD r] σ K:=
 Bd (aW 221) (AeS hS h ok hc r0 r1) fun v σ' h=>by obtain ⟨rfl,h⟩:=h;exact hk σ' h
theorem Pl.begin_on {r:Int} (h:S.goesOn r=true):S.begin r=S:=by unfold Pl.begin;rw [if_pos h]
set_option maxRecDepth 20000 in
theorem AfB (hS:PSt W σ0 S ws) (h:AO W σ0 σ S) (ok:S.Ok c) (hc:c<=2800000):
  Af prog 164 #[.pointer (some ⟨W.pb,0,none⟩)] σ fun v σ'=>v=.tuple #[]/\AO W σ0 σ' S.tick:=by
 refine Nc _ _ _ ?_
 unfold E3
 have hn:=ok.v.n
 have hm:=ok.v.m
 obtain ⟨ok2,sm2⟩:(S.endK S.B.length).Ok c/\S.Sm (S.endK S.B.length):=⟨ok.endK _,Pl.Sm.endK _ _⟩
 obtain ⟨ok5,sm5⟩:S.end_.Ok c/\S.Sm S.end_:=ok.endF (Nat.le_refl _)
 obtain ⟨ok8,sm8⟩:S.end_.come.Ok c/\S.Sm S.end_.come:=let ⟨a,b⟩:=ok5.comeF (Nat.le_refl _);⟨a,sm5.trans b⟩
 obtain ⟨ok11,sm11⟩:=ok.rest
 obtain ⟨ok14,sm14⟩:(S.rest.begins S.B.length).Ok (c+540)/\S.Sm (S.rest.begins S.B.length):=let ⟨a,b⟩:=ok11.beginF S.B.length (by rw [sm11.b];omega);⟨a.mono (by omega),sm11.trans b⟩
 have e5:S.end_=(BA S.G.length).foldl Pl.off1 (S.endK S.B.length):=rfl
 have e8:S.end_.come=(BA S.G.length).foldl Pl.come1 S.end_:=by rw [Pl.come,sm5.g]
 have e11:S.rest=(BA S.G.length).foldl Pl.quit1 S.end_.come:=by rw [Pl.rest,Pl.leaves_eq,sm8.g]
 refine Ad fun J3 h3=>?_
 have k3:∀ τ,AO W σ0 τ (S.endK S.B.length)->J3 τ:=by
  intro σ2 hσ2
  rw [h3]
  intro _
  refine Ad fun J6 h6=>?_
  have k6:∀ τ,AO W σ0 τ S.end_->J6 τ:=by
   intro s5 hs5
   rw [h6]
   intro _
   refine Ad fun J9 h9=>?_
   have k9:∀ τ,AO W σ0 τ S.end_.come->J9 τ:=by
    intro s8 hσ8
    rw [h9]
    intro _
    refine Ad fun J12 h12=>?_
    have k12:∀ τ,AO W σ0 τ S.rest->J12 τ:=by
     intro s11 hs11
     rw [h12]
     intro _
     refine Ad fun J15 h15=>?_
     have k15:∀ τ,AO W σ0 τ (S.rest.begins S.B.length)->J15 τ:=by
      intro s14 hs14
      rw [h15]
      intro _
      show ∃ _,_
      have et:S.tick=(S.rest.begins S.B.length).lineK S.B.length:=rfl
      rw [et]
      generalize S.rest.begins S.B.length=X at *
      refine ⟨fun m i τ=>∃ k:Nat,m=S.B.length-k/\i=k/\k<=S.B.length/\AO W σ0 τ (X.lineK k),⟨_,0,rfl,rfl,by omega,by rw [X.lineK_zero];exact hs14⟩,?_⟩
      rintro m i τ ⟨k,rfl,rfl,hk,ht⟩ _
      obtain ⟨v,hb⟩:=ht.pblk
      have hT:=(hS.sm sm14).sub ht.sub
      have hlr:W.f.n=S.B.length:=by rw [hT.e.lenR,sm14.b]
      refine AF (Bf hb rfl (Az (fun hlt=>?_) (fun hlt=>?_)))
      ·have hkl:k<S.B.length:=by omega
       have hkx:(k:Int)<(X.B.length:Int):=by rw [sm14.b];omega
       have hkli:k<X.lines.length:=by rw [ok14.ll,sm14.b];exact hkl
       have hkll:(k:Int)<((X.lineK k).lines.length:Int):=by
        have:(X.lineK k).lines.length=X.lines.length:=by simp [Pl.lineK]
        rw [this];omega
       refine Ad fun J27 h27=>?_
       have k27:∀ t',AO W σ0 t' (X.lineK (k+1))->J27 t':=by
        intro t' h'
        rw [h27]
        intro _
        exact AQ (by omega) (AX _ (by omega) ⟨k+1,rfl,by omega,by omega,h'⟩)
       refine Ad fun J33 h33=>?_
       have k33:J33 (X.guests1 k) τ:=by
        rw [h33]
        intro _
        refine AF (Bf hb rfl (AF (Bf hb rfl (Ch ht.ird.2.2.2.1 (by omega) hkll ?_))))
        rw [X.lineK_lines hkli]
        refine ht.stLi (by omega) hkll fun t' h'=>k27 _ ?_
        rw [X.lineK_succ hkli]
        exact h'
       have hql:=ok14.qlen (r:=k) (by omega) hkx
       have hqs:=ok14.qs k (by omega) hkx
       have hsz:=ok14.sizes (r:=k) (by omega) hkx
       have hrl:(k:Int).toNat<(X.lineK k).queues.length:=by show _<X.queues.length;rw [ok14.lq];omega
       obtain ⟨b2,off,s,s3,hqA,hqn,hcell,ho,_,_⟩:=ht.que hrl
       change W.q.n=X.queues.length at hqn
       change Aj 3 aM s3 s.A s.n s.c (X.qu k) τ at ho
       have hqi:(k:Int)<(W.q.n:Int):=by rw [hqn,ok14.lq];exact hkx
       have hsn:s.n=(X.qu k).length:=ho.len
       have k33:J33 (Cx ((X.qu k).map fun g=>(X.gr g).size)) τ:=k33
       generalize X.qu k=Q at *
       refine ⟨fun m gu i τ2=>∃ t:Nat,m=Q.length-t/\i=t/\t<=Q.length/\gu=Cx ((Q.take t).map fun g=>(X.gr g).size)/\τ2=τ,⟨_,0,rfl,rfl,by omega,rfl,rfl⟩,?_⟩
       rintro m gu i τ2 ⟨t,rfl,rfl,ht2,rfl,rfl⟩ _
       refine AF (Bf hb rfl (Lu hqA (by omega) hqi (CI hcell (Az (fun hlt2=>?_) (fun hlt2=>?_)))))
       ·have htl:t<Q.length:=by omega
        have b1:=hsz t ht2
        have b2:=hsz (t+1) htl
        have e2:Cx ((Q.take (t+1)).map fun g=>(X.gr g).size)=Cx ((Q.take t).map fun g=>(X.gr g).size)+(gd X.G Q[t]).size:=by
         rw [List.take_succ_eq_append_getElem htl,List.map_append,QF]
         simp [Cx]
         rfl
        obtain ⟨g0,g1,_⟩:=hqs _ (List.getElem_mem htl)
        refine AF (Bf hb rfl (AF (Bf hb rfl (Lu hqA (by omega) hqi (CI hcell (Ch ho.rd (by omega) (by omega) ?_))))))
        rw [BJ htl]
        refine hT.e.gix g0 g1 fun b a _ d1 _ _ _=>AV d1 (AQ (by omega) (AQ (by omega) (AX _ (by omega) ⟨t+1,rfl,by omega,by omega,e2.symm,rfl⟩)))
       ·have:t=Q.length:=by omega
        subst this
        rw [List.take_length]
        exact k33
      ·have:k=S.B.length:=by omega
       subst this
       exact Ai ⟨rfl,ht⟩
     generalize S.rest=T at *
     refine ⟨fun m i τ=>∃ k:Nat,m=S.B.length-k/\i=k/\k<=S.B.length/\AO W σ0 τ (T.begins k),⟨_,0,rfl,rfl,by omega,hs11⟩,?_⟩
     rintro m i τ ⟨k,rfl,rfl,hk,ht⟩ _
     obtain ⟨okY,smY⟩:=ok11.beginF k (by rw [sm11.b];omega)
     have smY:=sm11.trans smY
     have eY:T.begins (k+1)=(T.begins k).begin k:=Pl.begins_succ
     obtain ⟨v,hb⟩:=ht.pblk
     have hY:=hS.sm smY
     have hT:=hY.sub ht.sub
     have hlr:W.f.n=S.B.length:=by rw [hT.e.lenR,smY.b]
     refine AF (Bf hb rfl (Az (fun hlt=>?_) (fun hlt=>?_)))
     ·have hkl:k<S.B.length:=by omega
      refine Ad fun J88 h88=>?_
      have k88:∀ t',AO W σ0 t' (T.begins (k+1))->J88 t':=by
       intro t' h'
       rw [h88]
       intro _
       exact AQ (by omega) (AX _ (by omega) ⟨k+1,rfl,by omega,by omega,h'⟩)
      rw [eY] at k88
      generalize T.begins k=Y at *
      have hkx:(k:Int)<(Y.B.length:Int):=by rw [smY.b];omega
      have hkb:(k:Int)<(Y.began.length:Int):=by rw [okY.lb];exact hkx
      have hke:(k:Int)<(Y.ended.length:Int):=by rw [okY.le];exact hkx
      have hnow:=okY.nw
      have hen:=okY.en k (by omega) hkx
      refine Ad fun J94 h94=>?_
      have k94:Y.goesOn k=false->J94 τ:=by
       intro hg
       rw [h94]
       intro _
       refine Ae5 hY ht okY (by omega) (by omega) hkx fun σ' h'=>⟨_,rfl,?_⟩
       have hfo:=Qv.of okY (r:=k) (by omega) hkx
       obtain ⟨f1,f2⟩:=P7 (Y.qu k) (Y.bt k).seats Y _ hfo
       have eb:Y.begin k=if (BU k (Y.qu k) (Y.bt k).seats Y).2<(Y.bt k).seats then (BU k (Y.qu k) (Y.bt k).seats Y).1.setB k Y.now else (BU k (Y.qu k) (Y.bt k).seats Y).1:=by
        unfold Pl.begin
        rw [if_neg (by simp [hg])]
       rw [eb] at k88
       generalize BU k (Y.qu k) (Y.bt k).seats Y=F at *
       refine Az (fun hf=>?_) (fun hf=>?_)
       ·rw [if_pos hf] at k88
        obtain ⟨v1,hb1⟩:=h'.pblk
        have hkf:(k:Int)<(F.1.began.length:Int):=by rw [f1.lb,f2.b];exact hkx
        refine AF (Bf hb1 rfl (AF (Bu hb1 rfl (h'.stBe (by omega) hkf fun t' h''=>k88 _ ?_))))
        rw [← f2.n]
        exact h''
       ·rw [if_neg hf] at k88
        exact k88 _ h'
      refine Ad fun J109 h109=>?_
      have k109:J109 (Y.goesOn k) τ:=by
       rw [h109]
       intro _
       refine BO (fun hg=>?_) (fun hg=>?_)
       ·rw [Pl.begin_on hg] at k88
        exact k88 _ ht
       ·exact k94 hg
      refine AF (Bf hb rfl (Ch ht.ird.1 (by omega) hkb (Az (fun h1=>?_) (fun h1=>?_))))
      ·rw [Pl.goesOn,decide_eq_true h1,Bool.true_or] at k109
       exact k109
      ·rw [Pl.goesOn,decide_eq_false h1,Bool.false_or] at k109
       refine AF (Bf hb rfl (Ch ht.ird.2.1 (by omega) hke (Az (fun h2=>?_) (fun h2=>?_))))
       ·rw [decide_eq_true h2,Bool.true_and] at k109
        refine AF (Bu hb rfl (AF (Bf hb rfl (Ch ht.ird.2.1 (by omega) hke (AQ (by omega) (AF (Bf hb rfl (hT.e.rix (by omega) hkx fun b4 a5 _ _ _ d3 _=>AV d3 k109))))))))
       ·rw [decide_eq_false h2,Bool.false_and] at k109
        exact k109
     ·have:k=S.B.length:=by omega
      subst this
      exact k15 _ ht
    generalize S.end_.come=T at *
    refine ⟨fun m i τ=>∃ k:Nat,m=S.G.length-k/\i=k/\k<=S.G.length/\AO W σ0 τ ((BA k).foldl Pl.quit1 T),⟨_,0,rfl,rfl,by omega,hσ8⟩,?_⟩
    rintro m i τ ⟨k,rfl,rfl,hk,ht⟩ _
    obtain ⟨okY,smY⟩:=ok8.quitF (n:=k) (by rw [sm8.g];omega)
    have smY:=sm8.trans smY
    have eY:(BA (k+1)).foldl Pl.quit1 T=((BA k).foldl Pl.quit1 T).quit1 k:=RX
    obtain ⟨v,hb⟩:=ht.pblk
    have hY:=hS.sm smY
    have hT:=hY.sub ht.sub
    have hlr:W.l.n=S.G.length:=by rw [hT.e.lenL,smY.g]
    refine AF (Bf hb rfl (Az (fun hlt=>?_) (fun hlt=>?_)))
    ·have hkl:k<S.G.length:=by omega
     refine Ad fun J149 h149=>?_
     have k149:∀ t',AO W σ0 t' ((BA (k+1)).foldl Pl.quit1 T)->J149 t':=by
      intro t' h'
      rw [h149]
      intro _
      exact AQ (by omega) (AX _ (by omega) ⟨k+1,rfl,by omega,by omega,h'⟩)
     rw [eY] at k149
     generalize (BA k).foldl Pl.quit1 T=Y at *
     have hkx:(k:Int)<(Y.G.length:Int):=by rw [smY.g];omega
     have hgl:(k:Int).toNat<Y.guests.length:=by rw [okY.lg];omega
     have hnow:=okY.nw
     have hgs:=okY.gs k (by omega) hkx
     have hsi:=hgs.s
     refine AF (Bf hb rfl (ht.gix (by omega) hgl fun b o hA=>ht.gI0 hA hgl rfl (ht.gI1 hA hgl rfl (ht.gI2 hA hgl rfl (ht.gI3 hA hgl rfl (Ad fun J164 h164=>?_))))))
     have k164:J164 (Y.quits k) τ:=by
      rw [h164]
      intro _
      refine BO (fun hq=>?_) (fun hq=>?_)
      ·have hq2:=hq
       unfold Pl.quits at hq2
       simp only [Bool.and_eq_true,decide_eq_true_eq] at hq2
       rw [Pl.quit1,if_pos hq] at k149
       exact T2 hY ht okY (by omega) (by omega) hkx hq2.1 (fun e=>by cases e) fun v σ' h'=>k149 _ h'
      ·rw [Pl.quit1,if_neg (by simp [hq])] at k149
       exact k149 _ ht
     refine Az (fun h2=>?_) (fun h2=>?_)
     ·rw [Pl.quits,decide_eq_true h2,Bool.true_and] at k164
      exact AF (Bu hb rfl (AQ (by omega) (AF (Bf hb rfl (hT.e.gix (by omega) hkx fun b4 a5 _ _ _ d4 _=>AV d4 k164)))))
     ·rw [Pl.quits,decide_eq_false h2,Bool.false_and] at k164
      exact k164
    ·have:k=S.G.length:=by omega
     subst this
     rw [← e11] at ht
     exact k12 _ ht
   generalize S.end_=T at *
   refine ⟨fun m i τ=>∃ k:Nat,m=S.G.length-k/\i=k/\k<=S.G.length/\AO W σ0 τ ((BA k).foldl Pl.come1 T),⟨_,0,rfl,rfl,by omega,hs5⟩,?_⟩
   rintro m i τ ⟨k,rfl,rfl,hk,ht⟩ _
   obtain ⟨okY,smY⟩:=ok5.comeF (n:=k) (by rw [sm5.g];omega)
   have smY:=sm5.trans smY
   have eY:(BA (k+1)).foldl Pl.come1 T=((BA k).foldl Pl.come1 T).come1 k:=RX
   obtain ⟨v,hb⟩:=ht.pblk
   have hY:=hS.sm smY
   have hT:=hY.sub ht.sub
   have hlr:W.l.n=S.G.length:=by rw [hT.e.lenL,smY.g]
   refine AF (Bf hb rfl (Az (fun hlt=>?_) (fun hlt=>?_)))
   ·have hkl:k<S.G.length:=by omega
    refine Ad fun J188 h188=>?_
    have k188:∀ t',AO W σ0 t' ((BA (k+1)).foldl Pl.come1 T)->J188 t':=by
     intro t' h'
     rw [h188]
     intro _
     exact AQ (by omega) (AX _ (by omega) ⟨k+1,rfl,by omega,by omega,h'⟩)
    rw [eY] at k188
    generalize (BA k).foldl Pl.come1 T=Y at *
    have hkx:(k:Int)<(Y.G.length:Int):=by rw [smY.g];omega
    have hgl:(k:Int).toNat<Y.guests.length:=by rw [okY.lg];omega
    have hnow:=okY.nw
    have hgs:=okY.gs k (by omega) hkx
    have hsi:=hgs.s
    refine AF (Bf hb rfl (ht.gix (by omega) hgl fun b o hA=>ht.gI0 hA hgl rfl (ht.gI1 hA hgl rfl (ht.gI2 hA hgl rfl (ht.gI3 hA hgl rfl (Ad fun J203 h203=>?_))))))
    have k203:J203 (Y.comeA k) τ:=by
     rw [h203]
     intro _
     refine BO (fun hq=>?_) (fun hq=>?_)
     ·have hq2:=hq
      unfold Pl.comeA at hq2
      simp only [Bool.and_eq_true,decide_eq_true_eq] at hq2
      rw [Pl.come1,if_pos hq] at k188
      exact Age hY ht okY (by omega) hkx (okY.free (by omega)) (hgs.w2 (by omega)) fun v σ' h'=>k188 _ h'
     ·rw [Pl.come1,if_neg (by simp [hq])] at k188
      refine Ad fun J209 h209=>?_
      have k209:J209 (Y.comeB k) τ:=by
       rw [h209]
       intro _
       refine BO (fun hq=>?_) (fun hq=>?_)
       ·have hq2:=hq
        unfold Pl.comeB at hq2
        simp only [Bool.and_eq_true,decide_eq_true_eq] at hq2
        rw [if_pos hq] at k188
        exact AdB hY ht okY (by omega) hkx (hgs.w3 (by omega)) (hgs.w2 (by omega)) fun v σ' h'=>k188 _ h'
       ·rw [if_neg (by simp [hq])] at k188
        exact k188 _ ht
      refine Az (fun h2=>?_) (fun h2=>?_)
      ·rw [Pl.comeB,decide_eq_true h2,Bool.true_and] at k209
       exact AF (Bu hb rfl (AQ (by omega) (AF (Bu hb rfl k209))))
      ·rw [Pl.comeB,decide_eq_false h2,Bool.false_and] at k209
       exact k209
    refine Az (fun h2=>?_) (fun h2=>?_)
    ·rw [Pl.comeA,decide_eq_true h2,Bool.true_and] at k203
     exact AF (Bf hb rfl (hT.e.gix (by omega) hkx fun b4 a5 d0 _ _ _ _=>AV d0 (AF (Bu hb rfl k203))))
    ·rw [Pl.comeA,decide_eq_false h2,Bool.false_and] at k203
     exact k203
   ·have:k=S.G.length:=by omega
    subst this
    rw [← e8] at ht
    exact k9 _ ht
  generalize S.endK S.B.length=T at *
  refine ⟨fun m i τ=>∃ k:Nat,m=S.G.length-k/\i=k/\k<=S.G.length/\AO W σ0 τ ((BA k).foldl Pl.off1 T),⟨_,0,rfl,rfl,by omega,hσ2⟩,?_⟩
  rintro m i τ ⟨k,rfl,rfl,hk,ht⟩ _
  obtain ⟨okY,smY⟩:((BA k).foldl Pl.off1 T).Ok c/\T.Sm ((BA k).foldl Pl.off1 T):=by
   have:=QC (f:=Pl.off1) (d:=0) ok2 k fun T' c' t1 t2 j hj=>t1.off2 (by omega) (by rw [t2.g,sm2.g];omega)
   simpa using this
  have smY:=sm2.trans smY
  have eY:(BA (k+1)).foldl Pl.off1 T=((BA k).foldl Pl.off1 T).off1 k:=RX
  obtain ⟨v,hb⟩:=ht.pblk
  have hY:=hS.sm smY
  have hT:=hY.sub ht.sub
  have hlr:W.l.n=S.G.length:=by rw [hT.e.lenL,smY.g]
  refine AF (Bf hb rfl (Az (fun hlt=>?_) (fun hlt=>?_)))
  ·have hkl:k<S.G.length:=by omega
   refine Ad fun J239 h239=>?_
   have k239:∀ t',AO W σ0 t' ((BA (k+1)).foldl Pl.off1 T)->J239 t':=by
    intro t' h'
    rw [h239]
    intro _
    exact AQ (by omega) (AX _ (by omega) ⟨k+1,rfl,by omega,by omega,h'⟩)
   rw [eY] at k239
   generalize (BA k).foldl Pl.off1 T=Y at *
   have hkx:(k:Int)<(Y.G.length:Int):=by rw [smY.g];omega
   have hgl:(k:Int).toNat<Y.guests.length:=by rw [okY.lg];omega
   have hgs:=okY.gs k (by omega) hkx
   refine AF (Bf hb rfl (ht.gix (by omega) hgl fun b o hA=>ht.gI0 hA hgl rfl (ht.gI1 hA hgl rfl (ht.gI2 hA hgl rfl (ht.gI3 hA hgl rfl (Ad fun J254 h254=>?_))))))
   have k254:J254 (Y.off k) τ:=by
    rw [h254]
    intro _
    refine BO (fun hq=>?_) (fun hq=>?_)
    ·have hq2:=hq
     unfold Pl.off at hq2
     simp only [Bool.and_eq_true,decide_eq_true_eq] at hq2
     rw [Pl.off1,if_pos hq] at k239
     exact Age hY ht okY (by omega) hkx (okY.free (by omega)) (hgs.w2 (by omega)) fun v σ' h'=>k239 _ h'
    ·rw [Pl.off1,if_neg (by simp [hq])] at k239
     exact k239 _ ht
   refine Az (fun h2=>?_) (fun h2=>?_)
   ·have hw0:=hgs.w3 (by omega)
    have hw1:=hgs.w2 (by omega)
    obtain ⟨q0,q1⟩:=okY.want hw0 hw1
    rw [Pl.off,decide_eq_true h2,Bool.true_and] at k254
    exact AF (Bf hb rfl (AF (Bf hb rfl (hT.e.gix (by omega) hkx fun b4 a5 _ _ d3 _ hwt=>CI d3 (Ch hwt hw0 hw1 (Ch ht.ird.2.1 q0 (by rw [okY.le];exact q1) (AF (Bu hb rfl k254))))))))
   ·rw [Pl.off,decide_eq_false h2,Bool.false_and] at k254
    exact k254
  ·have:k=S.G.length:=by omega
   subst this
   rw [← e5] at ht
   exact k6 _ ht
 refine ⟨fun m i τ=>∃ k:Nat,m=S.B.length-k/\i=k/\k<=S.B.length/\AO W σ0 τ (S.endK k),⟨_,0,rfl,rfl,by omega,by rw [Pl.endK_zero];exact h⟩,?_⟩
 rintro m i τ ⟨k,rfl,rfl,hk,ht⟩ _
 obtain ⟨v,hb⟩:=ht.pblk
 have hT:=hS.sub ht.sub
 have hlr:W.f.n=S.B.length:=hT.e.lenR
 refine AF (Bf hb rfl (Az (fun hlt=>?_) (fun hlt=>?_)))
 ·have hkl:k<S.B.length:=by omega
  refine Ad fun J286 h286=>?_
  have k286:∀ t',AO W σ0 t' (S.endK (k+1))->J286 t':=by
   intro t' h'
   rw [h286]
   intro _
   exact AQ (by omega) (AX _ (by omega) ⟨k+1,rfl,by omega,by omega,h'⟩)
  have hkx:(k:Int)<(S.B.length:Int):=by omega
  have hkbn:k<S.began.length:=by rw [ok.lb];exact hkl
  have hken:k<S.ended.length:=by rw [ok.le];exact hkl
  have hlb:(S.endK k).began.length=S.began.length:=by simp [Pl.endK]
  have hle:(S.endK k).ended.length=S.ended.length:=by simp [Pl.endK]
  have hkb:(k:Int)<((S.endK k).began.length:Int):=by rw [hlb];omega
  have hke:(k:Int)<((S.endK k).ended.length:Int):=by rw [hle];omega
  have hbe:=ok.be k (by omega) hkx
  have hnow:=ok.nw
  refine Ad fun J292 h292=>?_
  have k292:S.ends k=true->J292 τ:=by
   intro he
   rw [h292]
   intro _
   refine AF (Bf hb rfl (ht.stBe (by omega) hkb fun τ1 h1=>?_))
   obtain ⟨v1,hb1⟩:=h1.pblk
   refine AF (Bf hb1 rfl (AF (Bu hb1 rfl (h1.stEn (by omega) hke fun τ2 h2=>k286 _ ?_))))
   rw [S.endK_yes he hkbn hken]
   exact h2
  refine Ad fun J310 h310=>?_
  have k310:J310 (!S.ends k) τ:=by
   rw [h310]
   intro _
   refine BO (fun he=>?_) (fun he=>?_)
   ·have he:S.ends k=false:=by simpa using he
    rw [S.endK_no he] at k286
    exact k286 _ ht
   ·exact k292 (by simpa using he)
  refine AF (Bf hb rfl (Ch ht.ird.1 (by omega) hkb ?_))
  rw [S.endK_began hkbn]
  refine Az (fun h1=>?_) (fun h1=>?_)
  ·rw [Pl.ends,decide_eq_false (show ¬ 0<=gt S.began k by omega),Bool.false_and] at k310
   exact k310
  ·rw [Pl.ends,decide_eq_true (show 0<=gt S.began k by omega),Bool.true_and] at k310
   refine AF (Bu hb rfl (AF (Bf hb rfl (Ch ht.ird.1 (by omega) hkb ?_))))
   rw [S.endK_began hkbn]
   exact AQ (by show _<=S.now-_/\S.now-_<=_;omega) (AF (Bf hb rfl (hT.e.rix (by omega) hkx fun b4 a5 _ _ d2 _ _=>AV d2 k310)))
 ·have:k=S.B.length:=by omega
  subst this
  exact k3 _ ht
end
end Go.Proofs.YtoelhdjloaknbaaGreat
