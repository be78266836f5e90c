/- What this claim rests on. -/
import Derived.Test.YtoelhdjloaknbaaGreatYB16
import Derived.Test.YtoelhdjloaknbaaGreatYQ3
namespace Go.Proofs.YtoelhdjloaknbaaGreat
open Go.RowKit Go.Proofs.Tryz
abbrev sGs:List Sh:=[.int .i64,.int .i64,.int .i64,.int .i64]
def gsT (x:Gs):TyR sGs:=(x.st,x.want,x.since,x.tokens)
def slT (s:SL):TyR [.slc]:=(s.A,s.n,s.c)
def ownP (e:TypeId) (ss:List Sh) (s:SL) (xs:List (TyR ss)):Rel:=fun σ σ'=>Ak e ss σ s.A s.n s.c xs σ'
def ownI (s:SL) (xs:List Int):Rel:=fun σ σ'=>Ak 3 aM σ s.A s.n s.c xs σ'
theorem Au.ownP {e:TypeId} {ss:List Sh} {s:SL} {xs:List (TyR ss)}:Au (ownP e ss s xs):=Au.own
theorem Au.ownI {s:SL} {xs:List Int}:Au (ownI s xs):=Au.own
def SL.d:SL:=⟨none,0,0⟩
structure PW where
 pb:Nat
 f:SL
 l:SL
 gu:SL
 q:SL
 be:SL
 en:SL
 ta:SL
 li:SL
 ho:SL
def Zp (W:PW) (S:Pl) (v:SL):Array Value:=#[W.f.v,aD S.walk,W.l.v,aD S.now,W.gu.v,W.q.v,W.be.v,W.en.v,v.v,W.ta.v,W.li.v,W.ho.v]
def coreP (W:PW) (S:Pl):Rel:=fun σ σ'=>∃ v,(Blk W.pb (.cells (Zp W S v) 178 (0,0))).seq (fun σ1 σ2=>Ak 75 sV σ1 v.A v.n v.c S.visits σ2) σ σ'
def Zf (hs:List SL) (qs:List (List Int)):List Rel:=(List.range qs.length).map fun i=>ownI (hs.getD i SL.d) (qs.getD i [])
def queP (s:SL) (qs:List (List Int)):Rel:=fun σ σ'=>∃ hs:List SL,(fun σ σ'=>hs.length=qs.length/\(Rel.seq (ownP 26 [.slc] s (hs.map slT)) (CA (Zf hs qs))) σ σ':Rel) σ σ'
theorem Ii {hs:List SL} {qs:List (List Int)}:∀ R∈Zf hs qs,Au R:=by
 intro R hR
 obtain ⟨i,_,rfl⟩:=List.mem_map.1 hR
 exact Au.ownI
theorem Au.coreP {W:PW} {S:Pl}:Au (coreP W S):=Au.ex fun _=>Au.seq Au.blk Au.own
theorem Au.queP {s:SL} {qs:List (List Int)}:Au (queP s qs):=Au.ex fun _=>Au.and (Au.seq Au.own (Au.star Ii))
def Ja (W:PW) (S:Pl):List Rel:=[coreP W S,ownP 237 sGs W.gu (S.guests.map gsT),queP W.q S.queues,ownI W.be S.began,ownI W.en S.ended,ownI W.ta S.takes,ownI W.li S.lines,ownI W.ho S.homes]
theorem Hs {W:PW} {S:Pl}:∀ R∈Ja W S,Au R:=by
 intro R hR
 simp only [Ja,List.mem_cons,List.not_mem_nil,or_false] at hR
 rcases hR with rfl | rfl | rfl | rfl | rfl | rfl | rfl | rfl
 ·exact Au.coreP
 ·exact Au.ownP
 ·exact Au.queP
 all_goals exact Au.ownI
theorem YM {W:PW} {S:Pl}:Au (CA (Ja W S)):=Au.star Hs
def AR (W:PW) (σ0 σ:Hp) (S:Pl):Prop:=Lse (CA (Ja W S)) σ0 σ
theorem AR.sub {W:PW} {σ0 σ:Hp} {S:Pl} (h:AR W σ0 σ S):Hp.Sub σ0 σ:=Lse.sub YM h
theorem AR.up {W:PW} {σ0 σ σ':Hp} {S:Pl} (h:AR W σ0 σ S) (hs:Hp.Sub σ σ'):AR W σ0 σ' S:=Lse.up h hs
theorem Ak.cellAt {e:TypeId} {ss:List Sh} {σ σ':Hp} {A:aA} {n c:Nat} {xs:List (TyR ss)} (h:Ak e ss σ A n c xs σ') {b off i j:Nat} (hA:A=some ⟨b,off,none⟩) (hi:i<xs.length) (hj:j<ss.length):σ'.cell? ⟨b,off+i*ss.length+j,none⟩=(Ck ss xs[i])[j]? := by
 obtain ⟨b',off',hA',hc⟩:=h.rd.cell hi
 rw [hA] at hA'
 cases hA'
 rw [Nat.add_assoc]
 exact hc j hj
theorem Ak.putAt {e:TypeId} {ss:List Sh} {σ σ':Hp} {A:aA} {n c:Nat} {xs:List (TyR ss)} (h:Ak e ss σ A n c xs σ') {b off i j:Nat} {v:Value} {r:TyR ss} (hA:A=some ⟨b,off,none⟩) (hi:i<xs.length) (hr:setR ss xs[i] j v=some r):
  σ'.wr ⟨b,off+i*ss.length+j,none⟩/\∃ σ2,Ak e ss σ A n c (xs.set i r) σ2/\Hp.Sub σ2 (σ'.put ⟨b,off+i*ss.length+j,none⟩ v):=by
 obtain ⟨b',off',hA',hp⟩:=h.put (Hp.Sub.refl _) hi
 rw [hA] at hA'
 cases hA'
 rw [Nat.add_assoc]
 exact hp j v r hr
theorem Ak.someA {e:TypeId} {ss:List Sh} {σ σ':Hp} {A:aA} {n c:Nat} {xs:List (TyR ss)} (h:Ak e ss σ A n c xs σ') (hx:0<xs.length):∃ b off,A=some ⟨b,off,none⟩/\∃ cells,σ' b=some (.cells cells e (0,0),true):=by
 rcases h with ⟨_,_,_,rfl,_⟩ | ⟨b,off,cells,hA,_,_,_,rfl,_⟩
 ·simp at hx
 ·exact ⟨b,off,hA,cells,Hp.ins_same ..⟩
theorem KF {A:aA} {n w b off:Nat} {i:Int} {K:Nat->Nat->Prop} (hA:A=some ⟨b,off,none⟩) (h0:0<=i) (h1:i<n) (hk:K b (off+i.toNat*w)):ix A n i w K:=by
 subst hA
 refine ⟨h0,h1,?_⟩
 rw [Cu]
 exact hk
section
variable {W:PW} {σ0 σ:Hp} {S:Pl}
theorem AR.core (h:AR W σ0 σ S):∃ σ1,coreP W S σ1 σ/\∀ R' σ2 σ',Au R'->R' σ1 σ2->Hp.Sub σ2 σ'->Lse (CA ((Ja W S).set 0 R')) σ0 σ':=IX (k:=0) Hs (by show 0<8;omega) h
theorem AR.at_ (h:AR W σ0 σ S) (k:Nat) (hk:k<8):∃ σ1,((Ja W S)[k]'hk) σ1 σ/\∀ R' σ2 σ',Au R'->R' σ1 σ2->Hp.Sub σ2 σ'->Lse (CA ((Ja W S).set k R')) σ0 σ':=IX (k:=k) Hs hk h
theorem AR.pblk (h:AR W σ0 σ S):∃ v:SL,σ W.pb=some (.cells (Zp W S v) 178 (0,0),true):=by
 obtain ⟨σ1,⟨v,σ2,h1,h2⟩,_⟩:=h.core
 exact ⟨v,h2.sub _ _ h1.get⟩
theorem AR.now (h:AR W σ0 σ S) (t:Int):σ.wr ⟨W.pb,3,none⟩/\AR W σ0 (σ.put ⟨W.pb,3,none⟩ (aD t)) (S.later t):=by
 obtain ⟨σ1,⟨v,σ2,h1,h2⟩,h3⟩:=h.core
 obtain ⟨w1,w2,_⟩:=h1.st h2.sub (k:=3) (show 3<12 by omega) (aD t)
 exact ⟨w1,h3 (coreP W (S.later t)) _ _ Au.coreP ⟨v,_,w2,h2.putb h1.get _⟩ (Hp.Sub.refl _)⟩
theorem AR.vis (h:AR W σ0 σ S):∃ (v:SL) (σ1:Hp),σ W.pb=some (.cells (Zp W S v) 178 (0,0),true)/\Ak 75 sV σ1 v.A v.n v.c S.visits σ /\
  ∀ (vs:List Vis) (s:SL) (σ2:Hp),Ak 75 sV σ1 s.A s.n s.c vs σ2->σ2.wr ⟨W.pb,8,none⟩/\AR W σ0 (σ2.put ⟨W.pb,8,none⟩ s.v) { S with visits:=vs }:=by
 obtain ⟨σ1,⟨v,σ2,h1,h2⟩,h3⟩:=h.core
 refine ⟨v,σ2,h2.sub _ _ h1.get,h2,fun vs s s4 h4=>?_⟩
 obtain ⟨w1,w2,w3⟩:=h1.st h4.sub (k:=8) (show 8<12 by omega) s.v
 exact ⟨w1,h3 (coreP W { S with visits:=vs }) _ _ Au.coreP ⟨s,_,w2,h4.putb h1.get s.v⟩ (Hp.Sub.refl _)⟩
theorem AR.gA (h:AR W σ0 σ S) {g:Int} (hg:g.toNat<S.guests.length):(∃ b off,W.gu.A=some ⟨b,off,none⟩)/\W.gu.n=S.guests.length:=by
 obtain ⟨σ1,h1,_⟩:=h.at_ 1 (by omega)
 have h1:Ak 237 sGs σ1 W.gu.A W.gu.n W.gu.c (S.guests.map gsT) σ:=h1
 obtain ⟨b,off,hA,_⟩:=h1.someA (by rw [List.length_map];omega)
 exact ⟨⟨b,off,hA⟩,by rw [h1.len];exact List.length_map ..⟩
theorem AR.gcell (h:AR W σ0 σ S) {g:Int} {b off j:Nat} (hA:W.gu.A=some ⟨b,off,none⟩) (hg:g.toNat<S.guests.length) (hj:j<4):σ.cell? ⟨b,off+g.toNat*4+j,none⟩=(Ck sGs (gsT (S.gu g)))[j]? := by
 obtain ⟨σ1,h1,_⟩:=h.at_ 1 (by omega)
 have h1:Ak 237 sGs σ1 W.gu.A W.gu.n W.gu.c (S.guests.map gsT) σ:=h1
 have hg':g.toNat<(S.guests.map gsT).length:=by rw [List.length_map];exact hg
 have:=h1.cellAt hA hg' (j:=j) hj
 have e:(S.guests.map gsT)[g.toNat]'hg'=gsT (S.gu g):=by simp [Pl.gu,List.getD,hg]
 rw [e] at this
 exact this
theorem AR.gst (h:AR W σ0 σ S) {g:Int} {b off j:Nat} {v:Value} {x':Gs} (hA:W.gu.A=some ⟨b,off,none⟩) (hg:g.toNat<S.guests.length) (hr:setR sGs (gsT (S.gu g)) j v=some (gsT x')):
  σ.wr ⟨b,off+g.toNat*4+j,none⟩/\AR W σ0 (σ.put ⟨b,off+g.toNat*4+j,none⟩ v) (S.setG g x'):=by
 obtain ⟨σ1,h1,h2⟩:=h.at_ 1 (by omega)
 have h1:Ak 237 sGs σ1 W.gu.A W.gu.n W.gu.c (S.guests.map gsT) σ:=h1
 have hg':g.toNat<(S.guests.map gsT).length:=by rw [List.length_map];exact hg
 have e:(S.guests.map gsT)[g.toNat]'hg'=gsT (S.gu g):=by simp [Pl.gu,List.getD,hg]
 obtain ⟨w1,σ2,w2,w3⟩:=h1.putAt (j:=j) (v:=v) (r:=gsT x') hA hg' (by rw [e];exact hr)
 refine ⟨w1,?_⟩
 have e2:(S.guests.map gsT).set g.toNat (gsT x')=(S.setG g x').guests.map gsT:=(List.map_set ..).symm
 rw [e2] at w2
 exact h2 (ownP 237 sGs W.gu ((S.setG g x').guests.map gsT)) _ _ Au.ownP w2 w3
theorem AR.ird (h:AR W σ0 σ S):RdS aM σ W.be.A W.be.n S.began/\RdS aM σ W.en.A W.en.n S.ended/\RdS aM σ W.ta.A W.ta.n S.takes/\RdS aM σ W.li.A W.li.n S.lines/\RdS aM σ W.ho.A W.ho.n S.homes:=by
 obtain ⟨_,h3,_⟩:=h.at_ 3 (by omega)
 obtain ⟨_,h4,_⟩:=h.at_ 4 (by omega)
 obtain ⟨_,h5,_⟩:=h.at_ 5 (by omega)
 obtain ⟨_,h6,_⟩:=h.at_ 6 (by omega)
 obtain ⟨_,h7,_⟩:=h.at_ 7 (by omega)
 exact ⟨Ak.rd h3,Ak.rd h4,Ak.rd h5,Ak.rd h6,Ak.rd h7⟩
theorem ist {s:SL} {xs:List Int} {σ1 σ:Hp} (h:ownI s xs σ1 σ) {i v:Int} {K:Hp->Prop} (h0:0<=i) (h1:i<xs.length) (hk:∀ σ2 τ2,ownI s (xs.set i.toNat v) σ1 σ2->Hp.Sub σ2 τ2->K τ2):ix s.A s.n i 1 fun b a=>st σ b a (aD v) K:=
 Ak.ix_stI (e:=3) h (Hp.Sub.refl _) h0 (by omega) fun σ2 τ2 h2 h3=>hk σ2 τ2 h2 h3
theorem AR.stBe (h:AR W σ0 σ S) {i v:Int} {K:Hp->Prop} (h0:0<=i) (h1:i<S.began.length) (hk:∀ τ,AR W σ0 τ { S with began:=S.began.set i.toNat v }->K τ):ix W.be.A W.be.n i 1 fun b a=>st σ b a (aD v) K:=by
 obtain ⟨σ1,h3,h4⟩:=h.at_ 3 (by omega)
 exact ist h3 h0 h1 fun σ2 τ2 p1 p2=>hk _ (h4 (ownI W.be (S.began.set i.toNat v)) _ _ Au.ownI p1 p2)
theorem AR.stEn (h:AR W σ0 σ S) {i v:Int} {K:Hp->Prop} (h0:0<=i) (h1:i<S.ended.length) (hk:∀ τ,AR W σ0 τ { S with ended:=S.ended.set i.toNat v }->K τ):ix W.en.A W.en.n i 1 fun b a=>st σ b a (aD v) K:=by
 obtain ⟨σ1,h3,h4⟩:=h.at_ 4 (by omega)
 exact ist h3 h0 h1 fun σ2 τ2 p1 p2=>hk _ (h4 (ownI W.en (S.ended.set i.toNat v)) _ _ Au.ownI p1 p2)
theorem AR.stTa (h:AR W σ0 σ S) {i v:Int} {K:Hp->Prop} (h0:0<=i) (h1:i<S.takes.length) (hk:∀ τ,AR W σ0 τ { S with takes:=S.takes.set i.toNat v }->K τ):ix W.ta.A W.ta.n i 1 fun b a=>st σ b a (aD v) K:=by
 obtain ⟨σ1,h3,h4⟩:=h.at_ 5 (by omega)
 exact ist h3 h0 h1 fun σ2 τ2 p1 p2=>hk _ (h4 (ownI W.ta (S.takes.set i.toNat v)) _ _ Au.ownI p1 p2)
theorem AR.stLi (h:AR W σ0 σ S) {i v:Int} {K:Hp->Prop} (h0:0<=i) (h1:i<S.lines.length) (hk:∀ τ,AR W σ0 τ { S with lines:=S.lines.set i.toNat v }->K τ):ix W.li.A W.li.n i 1 fun b a=>st σ b a (aD v) K:=by
 obtain ⟨σ1,h3,h4⟩:=h.at_ 6 (by omega)
 exact ist h3 h0 h1 fun σ2 τ2 p1 p2=>hk _ (h4 (ownI W.li (S.lines.set i.toNat v)) _ _ Au.ownI p1 p2)
theorem AR.stHo (h:AR W σ0 σ S) {i v:Int} {K:Hp->Prop} (h0:0<=i) (h1:i<S.homes.length) (hk:∀ τ,AR W σ0 τ { S with homes:=S.homes.set i.toNat v }->K τ):ix W.ho.A W.ho.n i 1 fun b a=>st σ b a (aD v) K:=by
 obtain ⟨σ1,h3,h4⟩:=h.at_ 7 (by omega)
 exact ist h3 h0 h1 fun σ2 τ2 p1 p2=>hk _ (h4 (ownI W.ho (S.homes.set i.toNat v)) _ _ Au.ownI p1 p2)
theorem AfG {hs:List SL} {qs:List (List Int)} {k:Nat} {s:SL} {q:List Int} (hl:hs.length=qs.length) (hk:k<qs.length):Zf (hs.set k s) (qs.set k q)=(Zf hs qs).set k (ownI s q):=by
 unfold Zf
 apply List.ext_getElem
 ·simp
 ·intro i h1 h2
  simp only [List.length_map,List.length_range,List.length_set] at h1
  simp only [List.getElem_map,List.getElem_range,List.getElem_set]
  by_cases e:k=i
  ·subst e
   rw [if_pos rfl,B5 (by omega),if_pos rfl,B5 hk,if_pos rfl]
  ·rw [if_neg e,B5 (by omega),if_neg fun h=>e h.symm,B5 hk,if_neg fun h=>e h.symm]
theorem AR.que (h:AR W σ0 σ S) {r:Int} (hr:r.toNat<S.queues.length):∃ (b off:Nat) (s:SL) (s3:Hp),W.q.A=some ⟨b,off,none⟩/\W.q.n=S.queues.length/\σ.cell? ⟨b,off+r.toNat*1,none⟩=some s.v/\Ak 3 aM s3 s.A s.n s.c (S.qu r) σ/\(∃ v:SL,s3 W.pb=some (.cells (Zp W S v) 178 (0,0),true)) /\
  ∀ (xs:List Int) (s':SL) (s4:Hp),Ak 3 aM s3 s'.A s'.n s'.c xs s4->s4.wr ⟨b,off+r.toNat*1,none⟩/\AR W σ0 (s4.put ⟨b,off+r.toNat*1,none⟩ s'.v) (S.setQ r xs):=by
 obtain ⟨σ1,hq,hk⟩:=h.at_ 2 (by omega)
 obtain ⟨hs,hl,σ2,ho,hi⟩:=hq
 have ho:Ak 26 [.slc] σ1 W.q.A W.q.n W.q.c (hs.map slT) σ2:=ho
 have hlm:r.toNat<(hs.map slT).length:=by rw [List.length_map,hl];exact hr
 obtain ⟨b,off,hA,cells,hbb⟩:=ho.someA (by omega)
 obtain ⟨s3,h3,h4⟩:=IX (k:=r.toNat) Ii (by unfold Zf;rw [List.length_map,List.length_range];exact hr) (Lse.of hi)
 have e3:(Zf hs S.queues)[r.toNat]'(by unfold Zf;rw [List.length_map,List.length_range];exact hr)=ownI (hs.getD r.toNat SL.d) (S.qu r):=by simp [Zf,Pl.qu]
 rw [e3] at h3
 have hn:W.q.n=S.queues.length:=by rw [ho.len,← hl];exact List.length_map ..
 have hsub:=Au.sub (Au.star (Ii (hs:=hs) (qs:=S.queues))) hi
 have hcell:σ.cell? ⟨b,off+r.toNat*1,none⟩=some (hs.getD r.toNat SL.d).v:=by
  have:=ho.cellAt hA hlm (j:=0) (by show 0<1;omega)
  have e:(hs.map slT)[r.toNat]'hlm=slT (hs.getD r.toNat SL.d):=by
   have:r.toNat<hs.length:=by rw [hl];exact hr
   simp [List.getD,this]
  rw [e] at this
  exact AaV hsub this
 have key:∀ (xs:List Int) (s':SL) (s4:Hp),Ak 3 aM s3 s'.A s'.n s'.c xs s4->s4.wr ⟨b,off+r.toNat*1,none⟩/\AR W σ0 (s4.put ⟨b,off+r.toNat*1,none⟩ s'.v) (S.setQ r xs):=by
  intro xs s' s4 h5
  have h6:=h4 (ownI s' xs) s4 s4 Au.ownI h5 (Hp.Sub.refl _)
  rw [← AfG hl hr] at h6
  obtain ⟨w1,s5,w2,w3⟩:=ho.putAt (j:=0) (v:=s'.v) (r:=slT s') hA hlm rfl
  have h7:=Lse.put (Au.star Ii) h6 hbb (k:=off+r.toNat*1) s'.v
  have h8:=h7.low (Au.star Ii) w3
  obtain ⟨s6,h9,h10⟩:=h8
  refine ⟨Ud w1 (Lse.sub (Au.star Ii) h6),?_⟩
  refine hk (queP W.q (S.setQ r xs).queues) s6 _ Au.queP ⟨hs.set r.toNat s',by show _=(S.queues.set _ _).length;rw [List.length_set,List.length_set];exact hl,s5,?_,h9⟩ h10
  have e:(hs.map slT).set r.toNat (slT s')=(hs.set r.toNat s').map slT:=(List.map_set ..).symm
  rw [e] at w2
  exact w2
 refine ⟨b,off,hs.getD r.toNat SL.d,s3,hA,hn,hcell,h3,?_,key⟩
 obtain ⟨⟨cw,ew,hw,_⟩,h'⟩:=key [] SL.d s3 (Ak.nil ..)
 obtain ⟨v,hv⟩:=h'.pblk
 have hne:W.pb≠b:=fun e=>by
  have hb3:∃ cells',(s3.put ⟨b,off+r.toNat*1,none⟩ SL.d.v) b=some (.cells cells' 26 (0,0),true):=by
   obtain ⟨s1',hq',_⟩:=h'.at_ 2 (by omega)
   obtain ⟨hs',hl',s2',ho',hi'⟩:=hq'
   have ho':Ak 26 [.slc] s1' W.q.A W.q.n W.q.c (hs'.map slT) s2':=ho'
   have hpos:0<(hs'.map slT).length:=by
    rw [List.length_map,hl']
    show 0<(S.queues.set _ _).length
    rw [List.length_set];omega
   obtain ⟨b',off',hA',cells',hb'⟩:=ho'.someA hpos
   rw [hA] at hA'
   cases hA'
   exact ⟨cells',Au.sub (Au.star Ii) hi' _ _ hb'⟩
  obtain ⟨cells',hb3⟩:=hb3
  rw [e,hb3] at hv
  injection hv with hv
  injection hv with hv _
  injection hv with _ hv _
  cases hv
 rw [Hp.put_ne (show W.pb≠(⟨b,off+r.toNat*1,none⟩:Addr).block from hne)] at hv
 exact ⟨v,hv⟩
end
theorem Pl.setG_setG (S:Pl) (g:Int) (x y:Gs):(S.setG g x).setG g y=S.setG g y:=by unfold Pl.setG;simp
structure PSt (W:PW) (σ:Hp) (S:Pl) (ws:Nat->SL):Prop where
 e:EvR σ W.f S.B W.l ws S.G
theorem PSt.sub {W:PW} {σ σ':Hp} {S:Pl} {ws:Nat->SL} (h:PSt W σ S ws) (hs:Hp.Sub σ σ'):PSt W σ' S ws:=⟨h.e.sub hs⟩
structure Aja (q:Grp) (x:Gs):Prop where
 w0:-1<=x.want
 w1:x.want<=q.wants.length
 w2:x.st≠4->x.want<q.wants.length
 w3:x.st≠0->0<=x.want
 s:0<=x.since/\x.since<=5000
 t:0<=x.tokens/\x.tokens<=10000
structure Pl.Ok (S:Pl) (c:Nat):Prop where
 v:Val S.walk S.B S.G
 lg:S.guests.length=S.G.length
 lh:S.homes.length=S.G.length
 lq:S.queues.length=S.B.length
 lb:S.began.length=S.B.length
 le:S.ended.length=S.B.length
 lt:S.takes.length=S.B.length
 ll:S.lines.length=S.B.length
 nw:0<=S.now/\S.now<=5000
 gs:∀ g:Int,0<=g->g<S.G.length->Aja (S.gr g) (S.gu g)
 qn:∀ r:Int,0<=r->r<S.B.length->(S.qu r).Nodup
 qs:∀ r:Int,0<=r->r<S.B.length->∀ g∈S.qu r,0<=g/\g<S.G.length/\(S.gu g).st=2/\gt (S.gr g).wants (S.gu g).want=r
 vl:S.visits.length<=c
 tk:∀ r:Int,0<=r->r<S.B.length->0<=gt S.takes r/\gt S.takes r<=4000*c
 be:∀ r:Int,0<=r->r<S.B.length->-1<=gt S.began r/\gt S.began r<=5000
 en:∀ r:Int,0<=r->r<S.B.length->-1<=gt S.ended r/\gt S.ended r<=5000
def Pl.free (S:Pl) (g:Int):Prop:=∀ r:Int,0<=r->r<S.B.length->g ∉ S.qu r
theorem Val.bt {w:Int} {B:List BthG} {G:List Grp} (h:Val w B G) {r:Int} (r0:0<=r) (r1:r<B.length):(1<=(bd B r).seats/\(bd B r).seats<=40)/\(0<=(bd B r).price/\(bd B r).price<=100)/\(1<=(bd B r).cycle/\(bd B r).cycle<=100)/\(0<=(bd B r).pause/\(bd B r).pause<=100):=by
 have hr:r.toNat<B.length:=by omega
 have e:bd B r=B[r.toNat]:=by unfold bd;simp [List.getD,hr]
 rw [e]
 exact h.b _ (List.getElem_mem hr)
theorem Val.gr {w:Int} {B:List BthG} {G:List Grp} (h:Val w B G) {g:Int} (r0:0<=g) (r1:g<G.length):(0<=(gd G g).came/\(gd G g).came<=2000)/\(1<=(gd G g).size/\(gd G g).size<=40)/\(0<=(gd G g).tokens/\(gd G g).tokens<=10000)/\(gd G g).wants.length<=10/\(0<=(gd G g).patience/\(gd G g).patience<=2000):=by
 have hr:g.toNat<G.length:=by omega
 have e:gd G g=G[g.toNat]:=by unfold gd;simp [List.getD,hr]
 rw [e]
 obtain ⟨a,b,c,d,e,_⟩:=h.g _ (List.getElem_mem hr)
 exact ⟨a,b,c,d,e⟩
section
variable {S:Pl} {c:Nat} {g:Int}
theorem Pl.Ok.mono {c':Nat} (h:S.Ok c) (hc:c<=c'):S.Ok c':={ h with vl:=Nat.le_trans h.vl hc,tk:=fun r r0 r1=>by have:=h.tk r r0 r1;omega }
theorem Pl.Ok.want (h:S.Ok c) (hw:0<=(S.gu g).want) (hw1:(S.gu g).want<(S.gr g).wants.length):0<=gt (S.gr g).wants (S.gu g).want/\gt (S.gr g).wants (S.gu g).want<S.B.length:=h.v.want hw hw1
theorem Pl.Ok.qlen (h:S.Ok c) {r:Int} (r0:0<=r) (r1:r<S.B.length):(S.qu r).length<=60:=
 Nat.le_trans (C4 S.G.length _ (h.qn r r0 r1) fun x hx=>by have:=h.qs r r0 r1 x hx;omega) h.v.n
theorem Pl.Ok.free (h:S.Ok c) (hs:(S.gu g).st≠2):S.free g:=fun r r0 r1 hm=>hs (h.qs r r0 r1 g hm).2.2.1
theorem Pl.Ok.setG (h:S.Ok c) (g0:0<=g) (g1:g<S.G.length) (hf:S.free g) {x:Gs} (hx:Aja (S.gr g) x):(S.setG g x).Ok c:=by
 have hgl:g.toNat<S.guests.length:=by rw [h.lg];omega
 refine { h with lg:=?_,gs:=fun k k0 k1=>?_,qs:=fun r r0 r1 k hk=>?_ }
 ·show (S.guests.set _ _).length=_
  rw [List.length_set];exact h.lg
 ·rw [Pl.gu_setG hgl]
  split
  ·rename_i e
   rw [BB k0 g0] at e
   subst e
   exact hx
  ·exact h.gs k k0 k1
 ·have hk:k∈S.qu r:=hk
  obtain ⟨a,b,d⟩:=h.qs r r0 r1 k hk
  refine ⟨a,b,?_⟩
  rw [Pl.gu_setG hgl,if_neg fun e=>hf r r0 r1 (by rw [BB a g0] at e;rw [← e];exact hk)]
  exact d
theorem Pl.qu_setQ (S:Pl) {r i:Int} {q:List Int} (hr:r.toNat<S.queues.length):(S.setQ r q).qu i=if i.toNat=r.toNat then q else S.qu i:=B5 hr
theorem Pl.Ok.setQ (h:S.Ok c) {r:Int} (r0:0<=r) (r1:r<S.B.length) {q:List Int} (hn:q.Nodup) (hq:∀ g∈q,0<=g/\g<S.G.length/\(S.gu g).st=2/\gt (S.gr g).wants (S.gu g).want=r):(S.setQ r q).Ok c:=by
 have hrl:r.toNat<S.queues.length:=by rw [h.lq];omega
 refine { h with lq:=?_,qn:=fun i i0 i1=>?_,qs:=fun i i0 i1=>?_ }
 ·show (S.queues.set _ _).length=_
  rw [List.length_set];exact h.lq
 ·rw [Pl.qu_setQ S hrl]
  split
  ·exact hn
  ·exact h.qn i i0 i1
 ·rw [Pl.qu_setQ S hrl]
  split
  ·rename_i e
   rw [BB i0 r0] at e
   subst e
   exact hq
  ·exact h.qs i i0 i1
theorem Pl.Ok.setH (h:S.Ok c) (t:Int):(S.setH g t).Ok c:={ h with lh:=by show (S.homes.set _ _).length=_;rw [List.length_set];exact h.lh }
theorem Pl.Ok.addV (h:S.Ok c) (x:Vis):(S.addV x).Ok (c+1):={ h with vl:=by show (S.visits++[x]).length<=_;rw [List.length_append];have:=h.vl;exact Nat.add_le_add this (Nat.le_refl 1),tk:=fun r r0 r1=>by have:=h.tk r r0 r1;show 0<=gt S.takes r/\gt S.takes r<=_;omega }
theorem Pl.Ok.stand (h:S.Ok c) (g0:0<=g) (g1:g<S.G.length) (hf:S.free g) (hw:0<=(S.gu g).want) (hw1:(S.gu g).want<(S.gr g).wants.length):(S.stand g).Ok c:=by
 obtain ⟨q0,q1⟩:=h.want hw hw1
 have hg:=h.gs g g0 g1
 have hgl:g.toNat<S.guests.length:=by rw [h.lg];omega
 have h1:=h.setG g0 g1 hf (x:={ S.gu g with st:=2,since:=S.now }) ⟨hg.w0,hg.w1,fun _=>hw1,fun _=>hw,h.nw,hg.t⟩
 refine h1.setQ q0 q1 ?_ ?_
 ·rw [List.nodup_append]
  refine ⟨h.qn _ q0 q1,by simp,fun a ha b hb=>?_⟩
  rw [List.mem_singleton] at hb
  subst hb
  intro e
  subst e
  exact hf _ q0 q1 ha
 ·intro k hk
  rcases List.mem_append.1 hk with hk | hk
  ·exact h1.qs _ q0 q1 k hk
  ·rw [List.mem_singleton] at hk
   subst hk
   rw [Pl.gu_setG hgl,if_pos rfl]
   exact ⟨g0,g1,rfl,rfl⟩
theorem Pl.Ok.on1 (h:S.Ok c) (g0:0<=g) (g1:g<S.G.length) (hf:S.free g) (_hw1:(S.gu g).want<(S.gr g).wants.length) (hw:¬ ((S.gr g).wants.length:Int)<=(S.gu g).want+1):(S.setG g { S.gu g with want:=(S.gu g).want+1,since:=S.now,st:=1 }).Ok c:=by
 have hg:=h.gs g g0 g1
 have:=hg.w0
 exact h.setG g0 g1 hf ⟨by show _<=(S.gu g).want+1;omega,by show (S.gu g).want+1<=_;omega,fun _=>by show (S.gu g).want+1<_;omega,fun _=>by show 0<=(S.gu g).want+1;omega,h.nw,hg.t⟩
theorem Pl.Ok.on (h:S.Ok c) (g0:0<=g) (g1:g<S.G.length) (hf:S.free g) (hw1:(S.gu g).want<(S.gr g).wants.length):(S.on g).Ok c:=by
 have hg:=h.gs g g0 g1
 have hgl:g.toNat<S.guests.length:=by rw [h.lg];omega
 have:=hg.w0
 unfold Pl.on
 split
 ·exact (h.setG g0 g1 hf (x:={ S.gu g with want:=(S.gu g).want+1,since:=S.now,st:=4 }) ⟨by show _<=(S.gu g).want+1;omega,by show (S.gu g).want+1<=_;omega,fun e=>absurd rfl e,fun _=>by show 0<=(S.gu g).want+1;omega,h.nw,hg.t⟩).setH _
 ·rename_i hw
  have h1:=h.on1 g0 g1 hf hw1 hw
  split
  ·refine h1.stand g0 g1 hf ?_ ?_
   ·rw [Pl.gu_setG hgl,if_pos rfl];show 0<=(S.gu g).want+1;omega
   ·rw [Pl.gu_setG hgl,if_pos rfl];show (S.gu g).want+1<((S.gr g).wants.length:Int);omega
  ·exact h1
theorem Pl.Ok.unq (h:S.Ok c) (g0:0<=g) (g1:g<S.G.length) (hs:(S.gu g).st=2) (b:Bool):(S.unq g b).Ok (c+1)/\(S.unq g b).free g:=by
 have hg:=h.gs g g0 g1
 have hw:=hg.w3 (by omega)
 have hw1:=hg.w2 (by omega)
 obtain ⟨q0,q1⟩:=h.want hw hw1
 have hrl:(gt (S.gr g).wants (S.gu g).want).toNat<S.queues.length:=by rw [h.lq];omega
 refine ⟨(h.setQ q0 q1 ((h.qn _ q0 q1).filter _) fun k hk=>h.qs _ q0 q1 k (List.mem_filter.1 hk).1).addV _,?_⟩
 intro r r0 r1 hm
 have hm:g∈(S.setQ (gt (S.gr g).wants (S.gu g).want) ((S.qu (gt (S.gr g).wants (S.gu g).want)).filter fun k=>decide (k≠g))).qu r:=hm
 rw [Pl.qu_setQ S hrl] at hm
 split at hm
 ·have:=(List.mem_filter.1 hm).2
  simp at this
 ·rename_i e
  exact e (by rw [(h.qs r r0 r1 g hm).2.2.2])
theorem Pl.Ok.price (h:S.Ok c) (g0:0<=g) (g1:g<S.G.length) {r:Int} (q0:0<=r) (q1:r<S.B.length):0<=(S.bt r).price*(S.gr g).size/\(S.bt r).price*(S.gr g).size<=4000:=by
 obtain ⟨_,⟨p0,p1⟩,_⟩:=h.v.bt q0 q1
 obtain ⟨_,⟨s0,s1⟩,_⟩:=h.v.gr g0 g1
 refine ⟨Int.mul_nonneg p0 (by show 0<=(gd S.G g).size;omega),?_⟩
 exact Int.le_trans (Int.mul_le_mul p1 s1 (by show 0<=(gd S.G g).size;omega) (by omega)) (by omega)
theorem Pl.Ok.setT (h:S.Ok c) {r t:Int} (r0:0<=r) (r1:r<S.B.length) (h0:0<=t) (h1:t<=4000*c):(S.setT r t).Ok c:=by
 refine { h with lt:=?_,tk:=fun i i0 i1=>?_ }
 ·show (S.takes.set _ _).length=_
  rw [List.length_set];exact h.lt
 ·have hrl:r.toNat<S.takes.length:=by rw [h.lt];omega
  show 0<=gt (S.takes.set r.toNat t) i/\gt (S.takes.set r.toNat t) i<=_
  have e:gt (S.takes.set r.toNat t) i=if i.toNat=r.toNat then t else gt S.takes i:=by unfold gt;exact B5 hrl
  rw [e]
  split
  ·exact ⟨h0,h1⟩
  ·exact h.tk i i0 i1
theorem Pl.Ok.leave (h:S.Ok c) (g0:0<=g) (g1:g<S.G.length) (hs:(S.gu g).st=2) {on:Bool} (hp:on=true->S.price g<=(S.gu g).tokens):(S.leave g on).Ok (c+1):=by
 have hg:=h.gs g g0 g1
 have hw:=hg.w3 (by omega)
 have hw1:=hg.w2 (by omega)
 obtain ⟨q0,q1⟩:=h.want hw hw1
 obtain ⟨u1,u2⟩:=h.unq g0 g1 hs on
 obtain ⟨p0,p1⟩:=h.price g0 g1 q0 q1
 have ht:=h.tk _ q0 q1
 unfold Pl.leave
 split
 ·rename_i e
  subst e
  refine (u1.setG g0 g1 u2 (x:={ S.gu g with st:=3,since:=S.now,tokens:=(S.gu g).tokens-S.price g }) ⟨hg.w0,hg.w1,fun _=>hw1,fun _=>hw,h.nw,?_⟩).setT q0 q1 ?_ ?_
  ·have:=hp rfl
   have:=hg.t
   show 0<=(S.gu g).tokens-S.price g/\(S.gu g).tokens-S.price g<=_
   unfold Pl.price at *
   omega
  ·show 0<=gt S.takes _+(S.bt _).price*_
   omega
  ·show gt S.takes _+(S.bt _).price*_<=_
   omega
 ·rename_i e
  have:on=false:=by cases on<;>simp_all
  subst this
  exact u1.on g0 g1 u2 hw1
theorem Pl.Ok.later (h:S.Ok c) {t:Int} (h0:0<=t) (h1:t<=5000):(S.later t).Ok c:={ h with nw:=⟨h0,h1⟩ }
theorem Pl.Ok.setB (h:S.Ok c) {r t:Int} (r0:0<=r) (r1:r<S.B.length) (h0:-1<=t) (h1:t<=5000):(S.setB r t).Ok c:=by
 refine { h with lb:=?_,be:=fun i i0 i1=>?_ }
 ·show (S.began.set _ _).length=_
  rw [List.length_set];exact h.lb
 ·have hrl:r.toNat<S.began.length:=by rw [h.lb];omega
  show -1<=gt (S.began.set r.toNat t) i/\gt (S.began.set r.toNat t) i<=_
  have e:gt (S.began.set r.toNat t) i=if i.toNat=r.toNat then t else gt S.began i:=by unfold gt;exact B5 hrl
  rw [e]
  split
  ·exact ⟨h0,h1⟩
  ·exact h.be i i0 i1
theorem Pl.Ok.endK (h:S.Ok c) (k:Nat):(S.endK k).Ok c:=by
 have hb:=h.lb
 have he:=h.le
 have hn:=h.nw
 refine { h with lb:=?_,le:=?_,be:=fun i i0 i1=>?_,en:=fun i i0 i1=>?_ }
 ·show ((List.range _).map _).length=_
  rw [List.length_map,List.length_range];exact hb
 ·show ((List.range _).map _).length=_
  rw [List.length_map,List.length_range];exact he
 ·have i1:i<S.B.length:=i1
  have:=h.be i i0 i1
  show -1<=gt ((List.range _).map _) i/\gt ((List.range _).map _) i<=_
  rw [H3 i0 (by omega)]
  have e:(i.toNat:Int)=i:=by omega
  split
  ·omega
  ·rw [e];exact this
 ·have i1:i<S.B.length:=i1
  have:=h.en i i0 i1
  show -1<=gt ((List.range _).map _) i/\gt ((List.range _).map _) i<=_
  rw [H3 i0 (by omega)]
  have e:(i.toNat:Int)=i:=by omega
  split
  ·omega
  ·rw [e];exact this
theorem Pl.Ok.lineK (h:S.Ok c) (k:Nat):(S.lineK k).Ok c:={ h with ll:=by show ((List.range _).map _).length=_;rw [List.length_map,List.length_range];exact h.ll }
theorem Pl.Ok.init {w:Int} {B:List BthG} {G:List Grp} (hv:Val w B G):(Pl.init w B G).Ok 0:=by
 have hz:∀ (n:Nat) (x r:Int),0<=r->r<n->gt (List.replicate n x) r=x:=fun n x r r0 r1=>by
  have:r.toNat<n:=by omega
  unfold gt
  simp [List.getD,this]
 have hq:∀ r:Int,(Pl.init w B G).qu r=[]:=fun r=>by
  show (List.replicate B.length ([]:List Int)).getD r.toNat []=[]
  simp only [List.getD,List.getElem?_replicate]
  split<;>rfl
 refine { v:=hv,lg:=by simp [Pl.init],lh:=by simp [Pl.init],lq:=by simp [Pl.init],lb:=by simp [Pl.init],le:=by simp [Pl.init],lt:=by simp [Pl.init],ll:=by simp [Pl.init],nw:=⟨by simp [Pl.init],by simp [Pl.init]⟩,gs:=fun g g0 g1=>?_,qn:=fun r _ _=>by rw [hq];exact List.nodup_nil,qs:=fun r _ _ k hk=>by rw [hq] at hk;simp at hk,vl:=by simp [Pl.init],tk:=fun r r0 r1=>?_,be:=fun r r0 r1=>?_,en:=fun r r0 r1=>?_ }
 ·have g1:g<G.length:=g1
  have hg:g.toNat<G.length:=by omega
  have e:(Pl.init w B G).gu g=⟨0,-1,0,(gd G g).tokens⟩:=by
   show (G.map _).getD g.toNat Gs.d=_
   unfold gd
   simp [List.getD,hg]
  rw [e]
  have:=hv.gr g0 g1
  refine ⟨by show (-1:Int)<=-1;omega,by show (-1:Int)<=_;omega,fun _=>by show (-1:Int)<_;omega,fun h=>absurd rfl h,by show (0:Int)<=0/\(0:Int)<=5000;omega,this.2.2.1⟩
 ·show 0<=gt (List.replicate B.length 0) r/\gt (List.replicate B.length 0) r<=_
  rw [hz B.length 0 r r0 r1];omega
 ·show -1<=gt (List.replicate B.length (-1)) r/\gt (List.replicate B.length (-1)) r<=_
  rw [hz B.length (-1) r r0 r1];omega
 ·show -1<=gt (List.replicate B.length (-1)) r/\gt (List.replicate B.length (-1)) r<=_
  rw [hz B.length (-1) r r0 r1];omega
end
structure Pl.Sm (S S':Pl):Prop where
 g:S'.G=S.G
 b:S'.B=S.B
 n:S'.now=S.now
 w:S'.walk=S.walk
theorem Pl.Sm.refl (S:Pl):S.Sm S:=⟨rfl,rfl,rfl,rfl⟩
theorem Pl.Sm.trans {S T U:Pl} (h:S.Sm T) (h':T.Sm U):S.Sm U:=⟨h'.g.trans h.g,h'.b.trans h.b,h'.n.trans h.n,h'.w.trans h.w⟩
theorem Pl.Sm.on (S:Pl) (g:Int):S.Sm (S.on g):=let ⟨a,b,c,_,_,d⟩:=S.on_same g;⟨a,b,c,d⟩
theorem Pl.Sm.stand (S:Pl) (g:Int):S.Sm (S.stand g):=⟨rfl,rfl,rfl,rfl⟩
theorem Pl.Sm.unq (S:Pl) (g:Int) (b:Bool):S.Sm (S.unq g b):=⟨rfl,rfl,rfl,rfl⟩
theorem Pl.Sm.leave (S:Pl) (g:Int) (b:Bool):S.Sm (S.leave g b):=by
 unfold Pl.leave
 split
 ·exact ⟨rfl,rfl,rfl,rfl⟩
 ·exact (Pl.Sm.unq S g false).trans (Pl.Sm.on _ g)
theorem Pl.Sm.endK (S:Pl) (k:Nat):S.Sm (S.endK k):=⟨rfl,rfl,rfl,rfl⟩
theorem Pl.Sm.setB (S:Pl) (r t:Int):S.Sm (S.setB r t):=⟨rfl,rfl,rfl,rfl⟩
theorem Pl.Sm.lineK (S:Pl) (k:Nat):S.Sm (S.lineK k):=⟨rfl,rfl,rfl,rfl⟩
theorem Pl.Sm.gr {S S':Pl} (h:S.Sm S') (g:Int):S'.gr g=S.gr g:=by unfold Pl.gr;rw [h.g]
theorem Pl.Sm.bt {S S':Pl} (h:S.Sm S') (r:Int):S'.bt r=S.bt r:=by unfold Pl.bt;rw [h.b]
theorem PSt.sm {W:PW} {σ:Hp} {S S':Pl} {ws:Nat->SL} (h:PSt W σ S ws) (e:S.Sm S'):PSt W σ S' ws:=⟨by rw [e.g,e.b];exact h.e⟩
theorem Pl.leave_ne {S:Pl} {g k:Int} {b:Bool} (h:k.toNat≠g.toNat):(S.leave g b).gu k=S.gu k:=by
 unfold Pl.leave
 split
 ·show ((S.unq g true).setG g _).gu k=_
  rw [Pl.gu_setG_ne h]
  rfl
 ·exact Pl.quit_ne (S:=S) h
theorem Pl.Ok.off1 {S:Pl} {c:Nat} {g:Int} (h:S.Ok c) (g0:0<=g) (g1:g<S.G.length) (ho:S.off g=true):(S.on g).Ok c:=by
 unfold Pl.off at ho
 simp only [Bool.and_eq_true,decide_eq_true_eq] at ho
 exact h.on g0 g1 (h.free (by omega)) ((h.gs g g0 g1).w2 (by omega))
theorem Pl.Ok.come1 {S:Pl} {c:Nat} {g:Int} (h:S.Ok c) (g0:0<=g) (g1:g<S.G.length):(S.come1 g).Ok c:=by
 have hg:=h.gs g g0 g1
 unfold Pl.come1
 split
 ·rename_i ha
  unfold Pl.comeA at ha
  simp only [Bool.and_eq_true,decide_eq_true_eq] at ha
  exact h.on g0 g1 (h.free (by omega)) (hg.w2 (by omega))
 ·split
  ·rename_i hb
   unfold Pl.comeB at hb
   simp only [Bool.and_eq_true,decide_eq_true_eq] at hb
   exact h.stand g0 g1 (h.free (by omega)) (hg.w3 (by omega)) (hg.w2 (by omega))
  ·exact h
theorem Pl.Sm.come1 (S:Pl) (g:Int):S.Sm (S.come1 g):=by
 unfold Pl.come1
 split
 ·exact Pl.Sm.on S g
 ·split
  ·exact Pl.Sm.stand S g
  ·exact Pl.Sm.refl S
theorem Pl.Ok.quit1 {S:Pl} {c:Nat} {g:Int} (h:S.Ok c) (g0:0<=g) (g1:g<S.G.length) (ho:S.quits g=true):(S.quit g).Ok (c+1):=by
 unfold Pl.quits at ho
 simp only [Bool.and_eq_true,decide_eq_true_eq] at ho
 exact h.leave g0 g1 ho.1 fun e=>by cases e
structure Px (S:Pl) (r:Int) (q:List Int) (c:Nat):Prop where
 ok:S.Ok c
 nd:q.Nodup
 el:∀ g∈q,0<=g/\g<S.G.length/\(S.gu g).st=2/\gt (S.gr g).wants (S.gu g).want=r
section
variable {S:Pl} {r g:Int} {q:List Int} {c:Nat}
theorem Px.of (h:S.Ok c) (r0:0<=r) (r1:r<S.B.length):Px S r (S.qu r) c:=⟨h,h.qn r r0 r1,h.qs r r0 r1⟩
theorem Px.skip (h:Px S r (g::q) c):Px S r q (c+1):=⟨h.ok.mono (by omega),(List.nodup_cons.1 h.nd).2,fun k hk=>h.el k (List.mem_cons_of_mem _ hk)⟩
theorem Px.leave (h:Px S r (g::q) c) {b:Bool} (hb:b=true->S.bad r g=false):Px (S.leave g b) r q (c+1):=by
 obtain ⟨g0,g1,g2,g3⟩:=h.el g (List.mem_cons_self ..)
 obtain ⟨n1,n2⟩:=List.nodup_cons.1 h.nd
 refine ⟨h.ok.leave g0 g1 g2 fun e=>?_,n2,fun k hk=>?_⟩
 ·have hb:=hb e
  unfold Pl.bad at hb
  simp only [Bool.or_eq_false_iff,decide_eq_false_iff_not] at hb
  unfold Pl.price
  rw [g3,Int.mul_comm]
  omega
 ·obtain ⟨k0,k1,k2,k3⟩:=h.el k (List.mem_cons_of_mem _ hk)
  have hne:k.toNat≠g.toNat:=fun e=>n1 (by rw [BB k0 g0] at e;rw [← e];exact hk)
  have sm:=Pl.Sm.leave S g b
  rw [Pl.leave_ne hne,sm.gr,sm.g]
  exact ⟨k0,k1,k2,k3⟩
end
theorem Pl.Ok.sizes {S:Pl} {c:Nat} (h:S.Ok c) {r:Int} (r0:0<=r) (r1:r<S.B.length):∀ k:Nat,k<=(S.qu r).length->0<=AQ (((S.qu r).take k).map fun g=>(S.gr g).size)/\AQ (((S.qu r).take k).map fun g=>(S.gr g).size)<=40*k
 | 0,_=>by simp [AQ]
 | k+1,hk=>by
  have h1:=h.sizes r0 r1 k (by omega)
  have hkl:k<(S.qu r).length:=by omega
  obtain ⟨g0,g1,_⟩:=h.qs r r0 r1 _ (List.getElem_mem hkl)
  have hs:=(h.v.gr g0 g1).2.1
  rw [List.take_succ_eq_append_getElem hkl,List.map_append,Dw]
  have e:AQ ([(S.qu r)[k]].map fun g=>(S.gr g).size)=(gd S.G (S.qu r)[k]).size:=by simp [AQ];rfl
  rw [e]
  omega
theorem EvR.gix {σ:Hp} {r l:SL} {B:List BthG} {ws:Nat->SL} {G:List Grp} (h:EvR σ r B l ws G) {g:Int} (g0:0<=g) (g1:g<G.length) {K:Nat->Nat->Prop}
  (hK:∀ b o,σ.cell? ⟨b,o,none⟩=some (aD (gd G g).came)->σ.cell? ⟨b,o+1,none⟩=some (aD (gd G g).size)->σ.cell? ⟨b,o+3,none⟩=some (ws g.toNat).v->σ.cell? ⟨b,o+4,none⟩=some (aD (gd G g).patience)->RdS aM σ (ws g.toNat).A (ws g.toNat).n (gd G g).wants->K b o):ix l.A l.n g 5 K:=by
 obtain ⟨k,rfl⟩:=Int.eq_ofNat_of_zero_le g0
 have hk:k<G.length:=by omega
 have e:gd G (k:Int)=G[k]:=by unfold gd;simp [List.getD,hk]
 rw [e] at hK
 exact h.group hk fun b o c0 c1 _ c3 c4=>hK b o c0 c1 c3 c4 (h.w k hk)
theorem EvR.rix {σ:Hp} {r l:SL} {B:List BthG} {ws:Nat->SL} {G:List Grp} (h:EvR σ r B l ws G) {g:Int} (g0:0<=g) (g1:g<B.length) {K:Nat->Nat->Prop}
  (hK:∀ b o,σ.cell? ⟨b,o,none⟩=some (aD (bd B g).seats)->σ.cell? ⟨b,o+1,none⟩=some (aD (bd B g).price)->σ.cell? ⟨b,o+2,none⟩=some (aD (bd B g).cycle)->σ.cell? ⟨b,o+3,none⟩=some (aD (bd B g).pause)->σ.cell? ⟨b,o+4,none⟩=some (.bool (bd B g).fill)->K b o):ix r.A r.n g 5 K:=by
 obtain ⟨k,rfl⟩:=Int.eq_ofNat_of_zero_le g0
 have hk:k<B.length:=by omega
 have e:bd B (k:Int)=B[k]:=by unfold bd;simp [List.getD,hk]
 rw [e] at hK
 exact h.ride hk hK
theorem Sd {p:Int->Bool} {xs:List Int} {k:Nat} (h:k<xs.length):(xs.take (k+1)).filter p=(xs.take k).filter p++(if p xs[k]=true then [xs[k]] else []):=by
 rw [List.take_succ_eq_append_getElem h,List.filter_append]
 congr 1
 simp only [List.filter_cons,List.filter_nil]
section
variable {W:PW} {σ0 σ:Hp} {S:Pl} {ws:Nat->SL} {c:Nat} {g:Int} {b o:Nat} {x:Gs}
theorem AR.gix (h:AR W σ0 σ S) {K:Nat->Nat->Prop} (g0:0<=g) (g1:g.toNat<S.guests.length) (hk:∀ b o,W.gu.A=some ⟨b,o,none⟩->K b (o+g.toNat*4)):ix W.gu.A W.gu.n g 4 K:=by
 obtain ⟨⟨b,o,hA⟩,hn⟩:=h.gA g1
 exact KF hA g0 (by rw [hn];omega) (hk b o hA)
theorem AR.gI0 (h:AR W σ0 σ S) {K:Int->Prop} (hA:W.gu.A=some ⟨b,o,none⟩) (hg:g.toNat<S.guests.length) (e:S.gu g=x) (hk:K x.st):ldI σ .i64 b (o+g.toNat*4) K:=by
 subst e
 exact A0 (h.gcell hA hg (j:=0) (by omega)) hk
theorem AR.gI1 (h:AR W σ0 σ S) {K:Int->Prop} (hA:W.gu.A=some ⟨b,o,none⟩) (hg:g.toNat<S.guests.length) (e:S.gu g=x) (hk:K x.want):ldI σ .i64 b (o+g.toNat*4+1) K:=by
 subst e
 exact A0 (h.gcell hA hg (j:=1) (by omega)) hk
theorem AR.gI2 (h:AR W σ0 σ S) {K:Int->Prop} (hA:W.gu.A=some ⟨b,o,none⟩) (hg:g.toNat<S.guests.length) (e:S.gu g=x) (hk:K x.since):ldI σ .i64 b (o+g.toNat*4+2) K:=by
 subst e
 exact A0 (h.gcell hA hg (j:=2) (by omega)) hk
theorem AR.gI3 (h:AR W σ0 σ S) {K:Int->Prop} (hA:W.gu.A=some ⟨b,o,none⟩) (hg:g.toNat<S.guests.length) (e:S.gu g=x) (hk:K x.tokens):ldI σ .i64 b (o+g.toNat*4+3) K:=by
 subst e
 exact A0 (h.gcell hA hg (j:=3) (by omega)) hk
theorem AR.gS0 (h:AR W σ0 σ S) {n:Int} {K:Hp->Prop} (hA:W.gu.A=some ⟨b,o,none⟩) (hg:g.toNat<S.guests.length) (e:S.gu g=x) (hk:∀ τ,AR W σ0 τ (S.setG g { x with st:=n })->K τ):st σ b (o+g.toNat*4) (aD n) K:=by
 subst e
 obtain ⟨w1,h1⟩:=h.gst (j:=0) (v:=aD n) (x':={ S.gu g with st:=n }) hA hg rfl
 exact ⟨w1,hk _ h1⟩
theorem AR.gS1 (h:AR W σ0 σ S) {n:Int} {K:Hp->Prop} (hA:W.gu.A=some ⟨b,o,none⟩) (hg:g.toNat<S.guests.length) (e:S.gu g=x) (hk:∀ τ,AR W σ0 τ (S.setG g { x with want:=n })->K τ):st σ b (o+g.toNat*4+1) (aD n) K:=by
 subst e
 obtain ⟨w1,h1⟩:=h.gst (j:=1) (v:=aD n) (x':={ S.gu g with want:=n }) hA hg rfl
 exact ⟨w1,hk _ h1⟩
theorem AR.gS2 (h:AR W σ0 σ S) {n:Int} {K:Hp->Prop} (hA:W.gu.A=some ⟨b,o,none⟩) (hg:g.toNat<S.guests.length) (e:S.gu g=x) (hk:∀ τ,AR W σ0 τ (S.setG g { x with since:=n })->K τ):st σ b (o+g.toNat*4+2) (aD n) K:=by
 subst e
 obtain ⟨w1,h1⟩:=h.gst (j:=2) (v:=aD n) (x':={ S.gu g with since:=n }) hA hg rfl
 exact ⟨w1,hk _ h1⟩
theorem AR.gS3 (h:AR W σ0 σ S) {n:Int} {K:Hp->Prop} (hA:W.gu.A=some ⟨b,o,none⟩) (hg:g.toNat<S.guests.length) (e:S.gu g=x) (hk:∀ τ,AR W σ0 τ (S.setG g { x with tokens:=n })->K τ):st σ b (o+g.toNat*4+3) (aD n) K:=by
 subst e
 obtain ⟨w1,h1⟩:=h.gst (j:=3) (v:=aD n) (x':={ S.gu g with tokens:=n }) hA hg rfl
 exact ⟨w1,hk _ h1⟩
theorem Pl.gu_same (hg:g.toNat<S.guests.length):(S.setG g x).gu g=x:=by rw [Pl.gu_setG hg,if_pos rfl]
theorem Pl.setG_len:(S.setG g x).guests.length=S.guests.length:=by show (S.guests.set _ _).length=_;rw [List.length_set]
set_option maxRecDepth 20000 in
theorem AcD (hS:PSt W σ0 S ws) (h:AR W σ0 σ S) (ok:S.Ok c) (g0:0<=g) (g1:g<S.G.length) (hw0:0<=(S.gu g).want) (hw1:(S.gu g).want<(S.gr g).wants.length):
  Ag prog 219 #[.pointer (some ⟨W.pb,0,none⟩),aD g] σ fun v σ'=>v=.tuple #[]/\AR W σ0 σ' (S.stand g):=by
 refine Mx _ _ _ _ ?_
 unfold Ey
 obtain ⟨q0,q1⟩:=ok.want hw0 hw1
 have hgl:g.toNat<S.guests.length:=by rw [ok.lg];omega
 have hrl:(gt (S.gr g).wants (S.gu g).want).toNat<S.queues.length:=by rw [ok.lq];omega
 have hql:=ok.qlen q0 q1
 obtain ⟨v,hb⟩:=h.pblk
 have hS1:=hS.sub h.sub
 refine AD (Bg hb rfl (h.gix g0 hgl fun b o hA=>AD (Bg hb rfl (hS1.e.gix g0 g1 fun b9 a10 _ _ c3 _ hwt=>Dc c3 (h.gI1 hA hgl rfl (B1 hwt hw0 hw1 (h.gS0 hA hgl rfl fun τ1 h1=>?_)))))))
 obtain ⟨v1,hb1⟩:=h1.pblk
 refine AD (Bx hb1 rfl (h1.gS2 hA (by rw [Pl.setG_len];exact hgl) (Pl.gu_same hgl) fun τ2 h2=>?_))
 rw [Pl.setG_setG] at h2
 obtain ⟨v2,hb2⟩:=h2.pblk
 obtain ⟨b,off,s,s3,hqA,hqn,hcell,ho,⟨v3,hb3⟩,hk⟩:=h2.que (r:=gt (S.gr g).wants (S.gu g).want) hrl
 have hqi:gt (S.gr g).wants (S.gu g).want<(W.q.n:Int):=by
  rw [hqn]
  show _<(S.queues.length:Int)
  omega
 change Ak 3 aM s3 s.A s.n s.c (S.qu (gt (S.gr g).wants (S.gu g).want)) τ2 at ho
 refine AD (AD (Bg hb2 rfl (KF hqA q0 hqi (Dc hcell ⟨Bg hb2 rfl (B2 ho (Bb ?_ (KF hqA q0 hqi fun A n c' s5 ho5=>?_))),Bg hb2 rfl (B2 ho (Bb ?_ (KF hqA q0 hqi fun A n c' s5 ho5=>?_))),B2 ho (Bb ?_ (Bg hb3 rfl (KF hqA q0 hqi fun A n c' s5 ho5=>?_)))⟩))))
 ·show (S.qu _).length+1<=_;omega
 ·obtain ⟨w1,h3⟩:=hk _ ⟨A,n,c'⟩ s5 ho5
  exact ⟨w1,Aj ⟨rfl,h3⟩⟩
 ·show (S.qu _).length+1<=_;omega
 ·obtain ⟨w1,h3⟩:=hk _ ⟨A,n,c'⟩ s5 ho5
  exact ⟨w1,Aj ⟨rfl,h3⟩⟩
 ·show (S.qu _).length+1<=_;omega
 ·obtain ⟨w1,h3⟩:=hk _ ⟨A,n,c'⟩ s5 ho5
  exact ⟨w1,Aj ⟨rfl,h3⟩⟩
set_option maxRecDepth 20000 in
theorem AhJ (hS:PSt W σ0 S ws) (h:AR W σ0 σ S) (ok:S.Ok c) (g0:0<=g) (g1:g<S.G.length) (hf:S.free g) (hw1:(S.gu g).want<(S.gr g).wants.length):
  Ag prog 218 #[.pointer (some ⟨W.pb,0,none⟩),aD g] σ fun v σ'=>v=.tuple #[]/\AR W σ0 σ' (S.on g):=by
 refine Qs _ _ _ _ ?_
 unfold GN
 have hgl:g.toNat<S.guests.length:=by rw [ok.lg];omega
 have hgl2:∀ x,g.toNat<(S.setG g x).guests.length:=fun x=>by rw [Pl.setG_len];exact hgl
 have hg:=ok.gs g g0 g1
 have hw0:=hg.w0
 have hwl:(S.gr g).wants.length<=10:=(ok.v.gr g0 g1).2.2.2.1
 obtain ⟨v,hb⟩:=h.pblk
 refine AD (Bg hb rfl (h.gix g0 hgl fun b o hA=>h.gI1 hA hgl rfl (AL (by omega) (h.gS1 hA hgl rfl fun τ1 h1=>?_))))
 obtain ⟨v1,hb1⟩:=h1.pblk
 refine AD (Bx hb1 rfl (h1.gS2 hA (hgl2 _) (Pl.gu_same hgl) fun τ2 h2=>?_))
 rw [Pl.setG_setG] at h2
 obtain ⟨v2,hb2⟩:=h2.pblk
 have hS2:=hS.sub h2.sub
 refine h2.gI1 hA (hgl2 _) (Pl.gu_same hgl) (AD (Bg hb2 rfl (hS2.e.gix g0 g1 fun b9 a10 _ _ c3 _ hwt=>Dc c3 ?_)))
 have hwn:(ws g.toNat).n=(S.gr g).wants.length:=hwt.lenI
 refine Ay (fun hle=>?_) (fun hle=>?_)
 ·rw [hwn] at hle
  have hle:((S.gr g).wants.length:Int)<=(S.gu g).want+1:=hle
  refine h2.gS0 hA (hgl2 _) (Pl.gu_same hgl) fun t3 h3=>?_
  rw [Pl.setG_setG] at h3
  obtain ⟨v3,hb3⟩:=h3.pblk
  refine AD (Bg hb3 rfl (AD (Bx hb3 rfl (h3.stHo g0 (by show g<(S.homes.length:Int);rw [ok.lh];exact g1) fun t4 h4=>Aj ⟨rfl,?_⟩))))
  rw [Pl.on,if_pos hle]
  exact h4
 ·rw [hwn] at hle
  have hle:¬ ((S.gr g).wants.length:Int)<=(S.gu g).want+1:=hle
  refine h2.gS0 hA (hgl2 _) (Pl.gu_same hgl) fun t3 h3=>?_
  rw [Pl.setG_setG] at h3
  obtain ⟨v3,hb3⟩:=h3.pblk
  refine AD (Bx hb3 rfl (Ay (fun e0=>?_) (fun e0=>?_)))
  ·have e0:S.walk=0:=e0
   refine AZ (aW 219) (AcD (S:=S.setG g { S.gu g with want:=(S.gu g).want+1,since:=S.now,st:=1 }) (hS.sm ⟨rfl,rfl,rfl,rfl⟩) h3 (ok.on1 g0 g1 hf hw1 hle) g0 g1 ?_ ?_) ?_
   ·rw [Pl.gu_same hgl];show 0<=(S.gu g).want+1;omega
   ·rw [Pl.gu_same hgl];show (S.gu g).want+1<((S.gr g).wants.length:Int);omega
   rintro _ σ' ⟨rfl,h4⟩
   refine Aj ⟨rfl,?_⟩
   rw [Pl.on,if_neg hle,if_pos e0]
   exact h4
  ·have e0:¬ S.walk=0:=e0
   refine Aj ⟨rfl,?_⟩
   rw [Pl.on,if_neg hle,if_neg e0]
   exact h3
set_option maxRecDepth 20000 in
theorem Afp (hS:PSt W σ0 S ws) (h:AR W σ0 σ S) (ok:S.Ok c) (hc:c<=3000000) (g0:0<=g) (g1:g<S.G.length) (hs:(S.gu g).st=2) {on:Bool} (hp:on=true->S.price g<=(S.gu g).tokens):
  Ag prog 220 #[.pointer (some ⟨W.pb,0,none⟩),aD g,.bool on] σ fun v σ'=>v=.tuple #[]/\AR W σ0 σ' (S.leave g on):=by
 apply MX
 unfold EE
 have hgl:g.toNat<S.guests.length:=by rw [ok.lg];omega
 have hg:=ok.gs g g0 g1
 have hw0:=hg.w3 (by omega)
 have hw1:=hg.w2 (by omega)
 obtain ⟨q0,q1⟩:=ok.want hw0 hw1
 obtain ⟨u1,u2⟩:=ok.unq g0 g1 hs on
 obtain ⟨p0,p1⟩:=ok.price g0 g1 q0 q1
 have ht:=ok.tk _ q0 q1
 have hrl:(gt (S.gr g).wants (S.gu g).want).toNat<S.queues.length:=by rw [ok.lq];omega
 have hql:=ok.qlen q0 q1
 have hvl:=ok.vl
 obtain ⟨v,hb⟩:=h.pblk
 have hS1:=hS.sub h.sub
 refine AD (Bg hb rfl (h.gix g0 hgl fun b o hA=>AD (Bg hb rfl (hS1.e.gix g0 g1 fun b9 a10 _ _ c3 _ hwt=>Dc c3 (h.gI1 hA hgl rfl (B1 hwt hw0 hw1 ?_))))))
 change cut _ _
 generalize hr:gt (gd S.G g).wants (S.gu g).want=r
 have hr':gt (S.gr g).wants (S.gu g).want=r:=hr
 rw [hr'] at q0 q1 hrl hql ht p0 p1
 refine Ae fun J18 h18=>?_
 have k18:∀ (A:aA) (l cc:Nat) (sa τ:Hp),AR W σ0 sa S->Ak 3 aM sa A l cc ((S.qu r).filter fun k:Int=>decide (k≠g)) τ->J18 A l cc τ:=by
  intro A l cc sa τ ha hl
  rw [h18]
  intro _
  obtain ⟨b2,off,s,s3,hqA,hqn,hcell,ho,_,hk⟩:=ha.que hrl
  have hqi:r<(W.q.n:Int):=by rw [hqn];omega
  obtain ⟨s3',s1,s2⟩:=Ak.swap ho hl
  obtain ⟨w1,h3⟩:=hk _ ⟨A,l,cc⟩ s3' s1
  obtain ⟨v1,hb1⟩:=(ha.up hl.sub).pblk
  have hsub:=s2.sub
  obtain ⟨cw,ew,hbw,_,_⟩:=id w1
  have h3:=h3.up (RX hsub hbw _)
  refine AD (Bg hb1 rfl (KF hqA q0 hqi ⟨Ud w1 hsub,?_⟩))
  obtain ⟨v2,s4,hb2,ho2,hk2⟩:=h3.vis
  change Ak 75 sV s4 v2.A v2.n v2.c S.visits _ at ho2
  refine AD (Bg hb2 rfl (h3.gI1 hA hgl rfl (h3.gI2 hA hgl rfl (AD (Bx hb2 rfl (B2 ho2 (Bb ?_ (AD fun A38 l38 c38 s39 ho39=>?_))))))))
  ·show S.visits.length+1<=_;omega
  obtain ⟨w4,h4⟩:=hk2 _ ⟨A38,l38,c38⟩ s39 ho39
  refine ⟨w4,?_⟩
  have e4:({ S.setQ r ((S.qu r).filter fun k:Int=>decide (k≠g)) with visits:=S.visits++[(g,(S.gu g).want,r,on,(S.gu g).since,S.now)] }:Pl)=S.unq g on:=by
   unfold Pl.unq
   rw [hr']
   rfl
  have h4:AR W σ0 _ (S.unq g on):=e4▸h4
  have hgl4:g.toNat<(S.unq g on).guests.length:=hgl
  have hgl5:∀ x,g.toNat<((S.unq g on).setG g x).guests.length:=fun x=>by rw [Pl.setG_len];exact hgl
  refine BR (fun eo=>?_) (fun eo=>?_)
  ·have eo:on=false:=by simpa using eo
   subst eo
   refine AZ (aW 218) (AhJ (S:=S.unq g false) (hS.sm (Pl.Sm.unq S g false)) h4 u1 g0 g1 u2 hw1) ?_
   rintro _ σ' ⟨rfl,h5⟩
   refine Aj ⟨rfl,?_⟩
   rw [Pl.leave,if_neg (by simp)]
   exact h5
  ·have eo:on=true:=by simpa using eo
   subst eo
   have hp:=hp rfl
   have hpe:S.price g=(bd S.B r).price*(gd S.G g).size:=by unfold Pl.price;rw [hr'];rfl
   have hp0:0<=(bd S.B r).price*(gd S.G g).size:=p0
   have hp1:(bd S.B r).price*(gd S.G g).size<=4000:=p1
   have htk:=hg.t
   refine h4.gS0 hA hgl4 rfl fun t5 h5=>?_
   obtain ⟨v5,hb5⟩:=h5.pblk
   refine AD (Bx hb5 rfl (h5.gS2 hA (hgl5 _) (Pl.gu_same hgl4) fun t6 h6=>?_))
   rw [Pl.setG_setG] at h6
   obtain ⟨v6,hb6⟩:=h6.pblk
   have hS6:=hS.sub h6.sub
   refine h6.gI3 hA (hgl5 _) (Pl.gu_same hgl4) (AD (Bg hb6 rfl (hS6.e.rix q0 q1 fun b52 a53 _ d1 _ _ _=>A0 d1 (AD (Bg hb6 rfl (hS6.e.gix g0 g1 fun b58 a59 _ d2 _ _ _=>A0 d2 (AL (by omega) (AL ?_ (h6.gS3 hA (hgl5 _) (Pl.gu_same hgl4) fun t7 h7=>?_)))))))))
   ·show _<=(S.gu g).tokens-_/\(S.gu g).tokens-_<=_
    omega
   rw [Pl.setG_setG] at h7
   obtain ⟨v7,hb7⟩:=h7.pblk
   have hS7:=hS.sub h7.sub
   have htl:r<(S.takes.length:Int):=by rw [ok.lt];exact q1
   refine AD (Bg hb7 rfl (B1 h7.ird.2.2.1 q0 htl (AD (Bg hb7 rfl (hS7.e.rix q0 q1 fun b73 a74 _ d1 _ _ _=>A0 d1 (AD (Bg hb7 rfl (hS7.e.gix g0 g1 fun b79 a80 _ d2 _ _ _=>A0 d2 (AL (by omega) (AL ?_ (h7.stTa q0 htl fun t8 h8=>Aj ⟨rfl,?_⟩)))))))))))
   ·show _<=gt S.takes r+_/\gt S.takes r+_<=_
    omega
   ·rw [Pl.leave,if_pos rfl,hr',hpe]
    exact h8
 refine ⟨fun n A l cc i τ=>∃ (k:Nat) (sa:Hp),n=(S.qu r).length-k/\i=k/\k<=(S.qu r).length/\AR W σ0 sa S/\Ak 3 aM sa A l cc (((S.qu r).take k).filter fun k:Int=>decide (k≠g)) τ,⟨_,0,σ,rfl,rfl,by omega,h,Ak.nil ..⟩,?_⟩
 rintro n A l cc i τ ⟨k,sa,rfl,rfl,hk,ha,hl⟩ _
 have hτ:=ha.up hl.sub
 obtain ⟨v1,hb1⟩:=hτ.pblk
 obtain ⟨b2,off,s,s3,hqA,hqn,hcell,ho,_,_⟩:=hτ.que hrl
 have hqi:r<(W.q.n:Int):=by rw [hqn];omega
 have hsn:s.n=(S.qu r).length:=ho.len
 refine AD (Bg hb1 rfl (KF hqA q0 hqi (Dc hcell ?_)))
 refine Ay (fun hlt=>?_) (fun hlt=>?_)
 ·have hkl:k<(S.qu r).length:=by omega
  have hfs:=Sd (p:=fun x=>decide (x≠g)) hkl
  refine Ae fun J101 h101=>?_
  have k101:∀ (A:aA) (l cc:Nat) (t':Hp),Ak 3 aM sa A l cc (((S.qu r).take (k+1)).filter fun k:Int=>decide (k≠g)) t'->J101 A l cc t':=by
   intro A l cc t' hl'
   rw [h101]
   intro _
   exact AL (by omega) (AY _ (by omega) ⟨k+1,sa,rfl,by omega,by omega,ha,hl'⟩)
  have hgk:gt (S.qu r) k=(S.qu r)[k]:=Bw hkl
  refine AD (Bg hb1 rfl (KF hqA q0 hqi (Dc hcell (B1 ho.rd (by omega) (by omega) ?_))))
  rw [hgk]
  refine BR (fun e=>?_) (fun e=>?_)
  ·have e:(S.qu r)[k]≠g:=by simpa using e
   rw [if_pos (by simpa using e)] at hfs
   refine AD (Bg hb1 rfl (KF hqA q0 hqi (Dc hcell (B1 ho.rd (by omega) (by omega) (B2 hl (Bb ?_ fun A n c' t' hl'=>k101 _ _ _ _ ?_))))))
   ·have:(((S.qu r).take k).filter fun k:Int=>decide (k≠g)).length<=(S.qu r).length:=Nat.le_trans (List.length_filter_le ..) (by rw [List.length_take];omega)
    show (List.filter _ _).length+1<=_
    omega
   ·rw [hgk] at hl'
    exact (congrArg (fun z:List Int=>Ak 3 aM sa A n c' z t') hfs).mpr hl'
  ·have e:¬ (S.qu r)[k]≠g:=by simpa using e
   rw [if_neg (by simpa using e),List.append_nil] at hfs
   exact k101 _ _ _ _ ((congrArg (fun z:List Int=>Ak 3 aM sa A l cc z τ) hfs).mpr hl)
 ·have:k=(S.qu r).length:=by omega
  subst this
  rw [List.take_length] at hl
  exact k18 _ _ _ _ _ ha hl
end
theorem O3 {f:Pl->Int->Pl} {d:Nat} {S:Pl} {c:Nat} (h:S.Ok c):∀ n:Nat,(∀ (T:Pl) (c':Nat),T.Ok c'->S.Sm T->∀ k:Nat,k<n->(f T k).Ok (c'+d)/\T.Sm (f T k))->((BE n).foldl f S).Ok (c+n*d)/\S.Sm ((BE n).foldl f S)
 | 0,_=>⟨by simpa [BE] using h,Pl.Sm.refl S⟩
 | n+1,hf=>by
  obtain ⟨h1,h2⟩:=O3 h n fun T c' t1 t2 k hk=>hf T c' t1 t2 k (by omega)
  obtain ⟨h3,h4⟩:=hf _ _ h1 h2 n (by omega)
  rw [OJ,List.foldl_append]
  refine ⟨?_,h2.trans h4⟩
  have e:c+(n+1)*d=c+n*d+d:=by rw [Nat.add_mul];omega
  rw [e]
  exact h3
theorem OL {f:Pl->Int->Pl} {S:Pl} {n:Nat}:(BE (n+1)).foldl f S=f ((BE n).foldl f S) n:=by rw [OJ,List.foldl_append];rfl
def Pl.off1 (S:Pl) (g:Int):Pl:=if S.off g=true then S.on g else S
def Pl.quit1 (S:Pl) (g:Int):Pl:=if S.quits g=true then S.quit g else S
theorem Pl.end_eq (S:Pl):S.end_=(BE S.G.length).foldl Pl.off1 (S.endK S.B.length):=rfl
theorem Pl.leaves_eq (S:Pl):S.leaves=(BE S.G.length).foldl Pl.quit1 S:=rfl
section
variable {S:Pl} {c:Nat}
theorem Pl.Ok.off2 (h:S.Ok c) {g:Int} (g0:0<=g) (g1:g<S.G.length):(S.off1 g).Ok c/\S.Sm (S.off1 g):=by
 unfold Pl.off1
 split
 ·rename_i e
  exact ⟨h.off1 g0 g1 e,Pl.Sm.on S g⟩
 ·exact ⟨h,Pl.Sm.refl S⟩
theorem Pl.Ok.quit2 (h:S.Ok c) {g:Int} (g0:0<=g) (g1:g<S.G.length):(S.quit1 g).Ok (c+1)/\S.Sm (S.quit1 g):=by
 unfold Pl.quit1
 split
 ·rename_i e
  exact ⟨h.quit1 g0 g1 e,Pl.Sm.leave S g false⟩
 ·exact ⟨h.mono (by omega),Pl.Sm.refl S⟩
theorem Pl.Ok.endF (h:S.Ok c) {n:Nat} (hn:n<=S.G.length):((BE n).foldl Pl.off1 (S.endK S.B.length)).Ok c/\S.Sm ((BE n).foldl Pl.off1 (S.endK S.B.length)):=by
 have:=O3 (f:=Pl.off1) (d:=0) (h.endK S.B.length) n fun T c' t1 t2 k hk=>t1.off2 (by omega) (by rw [t2.g];show (k:Int)<(S.G.length:Int);omega)
 exact ⟨by simpa using this.1,(Pl.Sm.endK S _).trans this.2⟩
theorem Pl.Ok.comeF (h:S.Ok c) {n:Nat} (hn:n<=S.G.length):((BE n).foldl Pl.come1 S).Ok c/\S.Sm ((BE n).foldl Pl.come1 S):=by
 have:=O3 (f:=Pl.come1) (d:=0) h n fun T c' t1 t2 k hk=>⟨t1.come1 (by omega) (by rw [t2.g];omega),Pl.Sm.come1 T k⟩
 simpa using this
theorem Pl.Ok.quitF (h:S.Ok c) {n:Nat} (hn:n<=S.G.length):((BE n).foldl Pl.quit1 S).Ok (c+n)/\S.Sm ((BE n).foldl Pl.quit1 S):=by
 have:=O3 (f:=Pl.quit1) (d:=1) h n fun T c' t1 t2 k hk=>t1.quit2 (by omega) (by rw [t2.g];omega)
 simpa using this
theorem V4 (r g:Int) (q:List Int) (left:Int) (T:Pl):BX r (g::q) left T=if T.bad r g=true then BX r q left (T.leave g false)
  else if (T.gr g).size<=left then BX r q (left-(T.gr g).size) (T.leave g true)
  else if (T.bt r).fill=true then BX r q left T
  else (T,left):=rfl
theorem Rs {r:Int}:∀ (q:List Int) (left:Int) (T:Pl) (c:Nat),Px T r q c->(BX r q left T).1.Ok (c+q.length)/\T.Sm (BX r q left T).1
 | [],left,T,c,h=>⟨by simpa [BX] using h.ok,Pl.Sm.refl T⟩
 | g::q,left,T,c,h=>by
  have el:c+(g::q).length=c+1+q.length:=by rw [List.length_cons];omega
  rw [el]
  unfold BX
  split
  ·obtain ⟨h1,h2⟩:=Rs q left _ _ (h.leave (b:=false) fun e=>by cases e)
   exact ⟨h1,(Pl.Sm.leave T g false).trans h2⟩
  ·rename_i hb
   split
   ·obtain ⟨h1,h2⟩:=Rs q (left-(T.gr g).size) _ _ (h.leave (b:=true) fun _=>by simpa using hb)
    exact ⟨h1,(Pl.Sm.leave T g true).trans h2⟩
   ·split
    ·exact Rs q left _ _ h.skip
    ·exact ⟨h.ok.mono (by omega),Pl.Sm.refl T⟩
theorem Pl.Ok.begin (h:S.Ok c) {r:Int} (r0:0<=r) (r1:r<S.B.length):(S.begin r).Ok (c+60)/\S.Sm (S.begin r):=by
 obtain ⟨h1,h2⟩:=Rs (S.qu r) (S.bt r).seats S c (Px.of h r0 r1)
 have hq:=h.qlen r0 r1
 have hn:=h.nw
 unfold Pl.begin
 split
 ·exact ⟨h.mono (by omega),Pl.Sm.refl S⟩
 ·split
  ·exact ⟨(h1.mono (by omega)).setB r0 (by rw [h2.b];exact r1) (by omega) hn.2,h2.trans (Pl.Sm.setB _ _ _)⟩
  ·exact ⟨h1.mono (by omega),h2⟩
theorem Pl.begins_succ {k:Nat}:S.begins (k+1)=(S.begins k).begin k:=EP (f:=fun (S:Pl) (r:Nat)=>S.begin r) (b:=S) (k:=k)
theorem Pl.Ok.beginF (h:S.Ok c):∀ n:Nat,n<=S.B.length->(S.begins n).Ok (c+n*60)/\S.Sm (S.begins n)
 | 0,_=>⟨by simpa [Pl.begins] using h,Pl.Sm.refl S⟩
 | n+1,hn=>by
  obtain ⟨h1,h2⟩:=h.beginF n (by omega)
  obtain ⟨h3,h4⟩:=h1.begin (r:=n) (by omega) (by rw [h2.b];omega)
  rw [Pl.begins_succ]
  refine ⟨?_,h2.trans h4⟩
  have e:c+(n+1)*60=c+n*60+60:=by omega
  rw [e]
  exact h3
theorem Pl.Ok.rest (h:S.Ok c):S.rest.Ok (c+60)/\S.Sm S.rest:=by
 obtain ⟨h1,h2⟩:=h.endF (Nat.le_refl _)
 rw [← Pl.end_eq] at h1 h2
 obtain ⟨h3,h4⟩:=h1.comeF (Nat.le_refl _)
 change S.end_.Sm S.end_.come at h4
 obtain ⟨h5,h6⟩:=Pl.Ok.quitF (S:=S.end_.come) h3 (Nat.le_refl _)
 refine ⟨?_,h2.trans (h4.trans h6)⟩
 have hn:=h.v.n
 have e:S.end_.come.G.length=S.G.length:=by rw [(h2.trans h4).g]
 refine Pl.Ok.mono (c:=c+S.end_.come.G.length) ?_ (by omega)
 exact h5
theorem Pl.Ok.tick (h:S.Ok c):S.tick.Ok (c+540)/\S.Sm S.tick:=by
 obtain ⟨h1,h2⟩:=h.rest
 obtain ⟨h3,h4⟩:=h1.beginF S.B.length (by rw [h2.b];omega)
 have hm:=h.v.m
 exact ⟨(h3.lineK S.B.length).mono (by omega),h2.trans (h4.trans (Pl.Sm.lineK _ _))⟩
theorem V8 {xs:List Int} {f:Nat->Int} (h:∀ i,i<xs.length->f i=gt xs i):(List.range xs.length).map f=xs:=by
 apply List.ext_getElem
 ·simp
 ·intro i h1 h2
  rw [List.getElem_map,List.getElem_range,h i h2,Bw h2]
theorem OU {n k:Nat} {f f':Nat->Int} {v:Int} (_hk:k<n) (h:∀ i,i<n->i≠k->f' i=f i) (hv:f' k=v):(List.range n).map f'=((List.range n).map f).set k v:=by
 apply List.ext_getElem
 ·simp
 ·intro i h1 h2
  have hi:i<n:=by simpa using h1
  rw [List.getElem_map,List.getElem_range,List.getElem_set]
  split
  ·rename_i e
   subst e
   exact hv
  ·rename_i e
   rw [List.getElem_map,List.getElem_range]
   exact h i hi fun e'=>e e'.symm
theorem Pl.endK_zero (S:Pl):S.endK 0=S:=by
 unfold Pl.endK
 rw [V8 (xs:=S.began) fun i _=>if_neg fun h=>by omega,V8 (xs:=S.ended) fun i _=>if_neg fun h=>by omega]
theorem Pl.endK_no (S:Pl) {k:Nat} (h:S.ends k=false):S.endK (k+1)=S.endK k:=by
 have:∀ (i:Nat) (a b:Int),(if i<k+1/\S.ends i=true then a else b)=if i<k/\S.ends i=true then a else b:=fun i a b=>by
  by_cases e:i=k
  ·subst e
   rw [if_neg (by simp [h]),if_neg (by simp [h])]
  ·by_cases e2:i<k
   ·by_cases e3:S.ends i=true
    ·rw [if_pos ⟨by omega,e3⟩,if_pos ⟨e2,e3⟩]
    ·rw [if_neg (fun h=>e3 h.2),if_neg (fun h=>e3 h.2)]
   ·rw [if_neg (fun h=>by omega),if_neg (fun h=>by omega)]
 unfold Pl.endK
 simp only [this]
theorem Pl.endK_yes (S:Pl) {k:Nat} (h:S.ends k=true) (hb:k<S.began.length) (he:k<S.ended.length):S.endK (k+1)={ S.endK k with began:=(S.endK k).began.set k (-1),ended:=(S.endK k).ended.set k S.now }:=by
 have h1:∀ (i:Nat) (a b:Int),i≠k->(if i<k+1/\S.ends i=true then a else b)=if i<k/\S.ends i=true then a else b:=fun i a b e=>by
  by_cases e2:i<k
  ·by_cases e3:S.ends i=true
   ·rw [if_pos ⟨by omega,e3⟩,if_pos ⟨e2,e3⟩]
   ·rw [if_neg (fun h=>e3 h.2),if_neg (fun h=>e3 h.2)]
  ·rw [if_neg (fun h=>by omega),if_neg (fun h=>by omega)]
 unfold Pl.endK
 rw [OU (k:=k) (f:=fun i:Nat=>if i<k/\S.ends i=true then -1 else gt S.began i) (v:=-1) hb (fun i _ e=>h1 i _ _ e) (if_pos ⟨by omega,h⟩),OU (k:=k) (f:=fun i:Nat=>if i<k/\S.ends i=true then S.now else gt S.ended i) (v:=S.now) he (fun i _ e=>h1 i _ _ e) (if_pos ⟨by omega,h⟩)]
theorem Pl.endK_began (S:Pl) {k:Nat} (h:k<S.began.length):gt (S.endK k).began k=gt S.began k:=by
 show gt ((List.range _).map _) (k:Int)=_
 rw [H3 (by omega) (by omega)]
 exact if_neg fun h=>by
  have:=h.1
  simp at this
theorem Pl.lineK_zero (S:Pl):S.lineK 0=S:=by
 unfold Pl.lineK
 rw [V8 (xs:=S.lines) fun i _=>if_neg fun h=>by omega]
theorem Pl.lineK_succ (S:Pl) {k:Nat} (h:k<S.lines.length):S.lineK (k+1)={ S.lineK k with lines:=(S.lineK k).lines.set k (if gt S.lines k<S.guests1 k then S.guests1 k else gt S.lines k) }:=by
 unfold Pl.lineK
 rw [OU (k:=k) (f:=fun i:Nat=>if i<k then (if gt S.lines i<S.guests1 i then S.guests1 i else gt S.lines i) else gt S.lines i) h (fun i _ e=>?_) (if_pos (by omega))]
 by_cases e2:i<k
 ·rw [if_pos (show i<k+1 by omega),if_pos e2]
 ·rw [if_neg (show ¬ i<k+1 by omega),if_neg e2]
theorem Pl.lineK_lines (S:Pl) {k:Nat} (h:k<S.lines.length):gt (S.lineK k).lines k=gt S.lines k:=by
 show gt ((List.range _).map _) (k:Int)=_
 rw [H3 (by omega) (by omega)]
 exact if_neg (by simp)
end
section
variable {W:PW} {σ0 σ:Hp} {S:Pl} {ws:Nat->SL} {c:Nat} {g:Int}
theorem VQ (hS:PSt W σ0 S ws) (h:AR W σ0 σ S) (ok:S.Ok c) (hc:c<=3000000) (g0:0<=g) (g1:g<S.G.length) (hs:(S.gu g).st=2) {on:Bool} (hp:on=true->S.price g<=(S.gu g).tokens) {K:aB} (hk:∀ v σ',AR W σ0 σ' (S.leave g on)->K v σ'):
  aC 220 #[.pointer (some ⟨W.pb,0,none⟩),aD g,.bool on] σ K:=
 AZ (aW 220) (Afp hS h ok hc g0 g1 hs hp) fun v σ' h=>hk v σ' h.2
theorem Ajn (hS:PSt W σ0 S ws) (h:AR W σ0 σ S) (ok:S.Ok c) (g0:0<=g) (g1:g<S.G.length) (hf:S.free g) (hw1:(S.gu g).want<(S.gr g).wants.length) {K:aB} (hk:∀ v σ',AR W σ0 σ' (S.on g)->K v σ'):
  aC 218 #[.pointer (some ⟨W.pb,0,none⟩),aD g] σ K:=
 AZ (aW 218) (AhJ hS h ok g0 g1 hf hw1) fun v σ' h=>hk v σ' h.2
theorem Agz (hS:PSt W σ0 S ws) (h:AR W σ0 σ S) (ok:S.Ok c) (g0:0<=g) (g1:g<S.G.length) (hw0:0<=(S.gu g).want) (hw1:(S.gu g).want<(S.gr g).wants.length) {K:aB} (hk:∀ v σ',AR W σ0 σ' (S.stand g)->K v σ'):
  aC 219 #[.pointer (some ⟨W.pb,0,none⟩),aD g] σ K:=
 AZ (aW 219) (AcD hS h ok g0 g1 hw0 hw1) fun v σ' h=>hk v σ' h.2
set_option maxRecDepth 20000 in
theorem Ah6 {r:Int} (hS:PSt W σ0 S ws) (h:AR W σ0 σ S) (ok:S.Ok c) (hc:c<=2900000) (r0:0<=r) (r1:r<S.B.length):
  Ag prog 221 #[.pointer (some ⟨W.pb,0,none⟩),aD r] σ fun v σ'=>v=.bool (decide ((BX r (S.qu r) (S.bt r).seats S).2<(S.bt r).seats))/\AR W σ0 σ' (BX r (S.qu r) (S.bt r).seats S).1:=by
 refine N9 _ _ _ _ ?_
 unfold Fe
 have hrl:r.toNat<S.queues.length:=by rw [ok.lq];omega
 have hql:=ok.qlen r0 r1
 obtain ⟨⟨s0,s1⟩,⟨p0,p1⟩,_⟩:=ok.v.bt r0 r1
 obtain ⟨v,hb⟩:=h.pblk
 have hS1:=hS.sub h.sub
 obtain ⟨b2,off,s,s3,hqA,hqn,hcell,ho,_,_⟩:=h.que hrl
 have hqi:r<(W.q.n:Int):=by rw [hqn];omega
 refine AD (Bg hb rfl (hS1.e.rix r0 r1 fun b4 a5 d0 d1 d2 d3 d4=>A0 d0 (A0 d1 (A0 d2 (A0 d3 (VU d4 (AD (Bg hb rfl (KF hqA r0 hqi (Dc hcell ⟨S.qu r,ho.rd,Bb (by show 0+(S.qu r).length<=_;omega) ?_⟩))))))))))
 have hbt:S.bt r=bd S.B r:=rfl
 rw [hbt]
 have hfo:=Px.of ok r0 r1
 generalize S.qu r=line at *
 refine Ae fun J20 h20=>?_
 have k20:∀ (left:Int) (τ:Hp) (T:Pl),BX r line (bd S.B r).seats S=(T,left)->AR W σ0 τ T->J20 left τ:=by
  intro left τ T he ht
  rw [h20]
  intro _
  rw [he]
  exact Aj ⟨rfl,ht⟩
 refine ⟨fun n left i τ=>∃ (k:Nat) (T:Pl),n=line.length-k/\i=k/\k<=line.length/\S.Sm T/\Px T r (line.drop k) (c+k)/\BX r (line.drop k) left T=BX r line (bd S.B r).seats S/\AR W σ0 τ T/\0<=left/\left<=40,⟨_,0,S,rfl,rfl,by omega,Pl.Sm.refl S,hfo,rfl,h,by omega,by omega⟩,?_⟩
 rintro n left i τ ⟨k,T,rfl,rfl,hk,sm,fo,he,ht,hl0,hl1⟩ _
 refine Ay (fun hlt=>?_) (fun hlt=>?_)
 ·have hkl:k<line.length:=by
   have:(k:Int)<(line.length:Int):=hlt
   omega
  rw [List.drop_eq_getElem_cons hkl] at fo he
  refine Ae fun J30 h30=>?_
  have k30:∀ (left':Int) (t':Hp) (T':Pl),S.Sm T'->Px T' r (line.drop (k+1)) (c+k+1)->BX r (line.drop (k+1)) left' T'=BX r line (bd S.B r).seats S->AR W σ0 t' T'->0<=left'->left'<=40->J30 left' t':=by
   intro left' t' T' a1 a2 a3 a4 a5 a6
   rw [h30]
   intro _
   exact AL (by omega) (AY _ (by omega) ⟨k+1,T',rfl,by omega,by omega,a1,a2,a3,a4,a5,a6⟩)
  refine ⟨by omega,hlt,X9 (xs:=line) (by omega) (by omega) ?_⟩
  rw [Bw hkl]
  generalize line[k]=g at *
  obtain ⟨g0,g1,gs,gw⟩:=fo.el g (List.mem_cons_self ..)
  have hgl:g.toNat<T.guests.length:=by rw [fo.ok.lg];omega
  obtain ⟨v1,hb1⟩:=ht.pblk
  have hT:=hS.sm sm
  have hT1:=hT.sub ht.sub
  obtain ⟨z0,z1⟩:=(fo.ok.v.gr g0 g1).2.1
  have htk:=(fo.ok.gs g g0 g1).t
  refine AD (Bg hb1 rfl (hT1.e.gix g0 g1 fun b39 a40 _ e1 _ _ _=>A0 e1 ?_))
  have hm0:0<=(gd T.G g).size*(bd S.B r).price:=Int.mul_nonneg (by omega) p0
  have hm1:(gd T.G g).size*(bd S.B r).price<=4000:=Int.le_trans (Int.mul_le_mul z1 p1 p0 (by omega)) (by omega)
  have hbad:T.bad r g=(decide ((bd S.B r).seats<(gd T.G g).size)||decide ((T.gu g).tokens<(gd T.G g).size*(bd S.B r).price)):=by
   unfold Pl.bad
   rw [sm.bt]
   rfl
  refine Ae fun J44 h44=>?_
  have k44:J44 (T.bad r g) τ:=by
   rw [h44]
   intro _
   rw [V4] at he
   refine BR (fun eb=>?_) (fun eb=>?_)
   ·rw [if_pos eb] at he
    exact VQ hT ht fo.ok (by omega) g0 g1 gs (fun e=>by cases e) fun v σ' h'=>k30 _ _ _ (sm.trans (Pl.Sm.leave T g false)) (fo.leave fun e=>by cases e) he h' hl0 hl1
   ·rw [if_neg (by simp [eb])] at he
    refine Ay (fun hsz=>?_) (fun hsz=>?_)
    ·have hsz':(T.gr g).size<=left:=hsz
     rw [if_pos hsz'] at he
     refine AL (by omega) ?_
     refine VQ hT ht fo.ok (by omega) g0 g1 gs (on:=true) (fun _=>?_) fun v σ' h'=>k30 _ _ _ (sm.trans (Pl.Sm.leave T g true)) (fo.leave fun _=>eb) he h' (by show 0<=left-(gd T.G g).size;omega) (by show left-(gd T.G g).size<=40;omega)
     rw [hbad] at eb
     simp only [Bool.or_eq_false_iff,decide_eq_false_iff_not] at eb
     have:T.price g=(bd S.B r).price*(gd T.G g).size:=by
      unfold Pl.price
      rw [gw,sm.bt]
      rfl
     rw [this,Int.mul_comm]
     omega
    ·have hsz':¬ (T.gr g).size<=left:=hsz
     rw [if_neg hsz',sm.bt,hbt] at he
     refine BR (fun ef=>?_) (fun ef=>?_)
     ·have ef:¬ (bd S.B r).fill=true:=by simpa using ef
      rw [if_neg ef] at he
      rw [← he]
      exact Aj ⟨rfl,ht⟩
     ·have ef:(bd S.B r).fill=true:=by simpa using ef
      rw [if_pos ef] at he
      exact k30 _ _ _ sm fo.skip he ht hl0 hl1
  refine Ay (fun hs=>?_) (fun hs=>?_)
  ·rw [hbad,decide_eq_true hs,Bool.true_or] at k44
   exact k44
  ·refine AD (Bg hb1 rfl (ht.gix g0 hgl fun b o hA=>ht.gI3 hA hgl rfl (AL (by omega) ?_)))
   rw [hbad,decide_eq_false hs,Bool.false_or] at k44
   exact k44
 ·have hlt:¬ (k:Int)<(line.length:Int):=hlt
  have:k=line.length:=by omega
  subst this
  rw [List.drop_length] at he
  exact k20 _ _ _ he.symm ht
end
section
variable {W:PW} {σ0 σ:Hp} {S:Pl} {ws:Nat->SL} {c:Nat} {g:Int}
theorem AiN {r:Int} (hS:PSt W σ0 S ws) (h:AR W σ0 σ S) (ok:S.Ok c) (hc:c<=2900000) (r0:0<=r) (r1:r<S.B.length) {K:aB} (hk:∀ σ',AR W σ0 σ' (BX r (S.qu r) (S.bt r).seats S).1->K (.bool (decide ((BX r (S.qu r) (S.bt r).seats S).2<(S.bt r).seats))) σ'):
  aC 221 #[.pointer (some ⟨W.pb,0,none⟩),aD r] σ K:=
 AZ (aW 221) (Ah6 hS h ok hc r0 r1) fun v σ' h=>by obtain ⟨rfl,h⟩:=h;exact hk σ' h
theorem Pl.begin_on {r:Int} (h:S.goesOn r=true):S.begin r=S:=by unfold Pl.begin;rw [if_pos h]
set_option maxRecDepth 20000 in
theorem AiJ (hS:PSt W σ0 S ws) (h:AR W σ0 σ S) (ok:S.Ok c) (hc:c<=2800000):
  Ag prog 164 #[.pointer (some ⟨W.pb,0,none⟩)] σ fun v σ'=>v=.tuple #[]/\AR W σ0 σ' S.tick:=by
 refine Ob _ _ _ ?_
 unfold Fd
 have hn:=ok.v.n
 have hm:=ok.v.m
 obtain ⟨ok2,sm2⟩:(S.endK S.B.length).Ok c/\S.Sm (S.endK S.B.length):=⟨ok.endK _,Pl.Sm.endK _ _⟩
 obtain ⟨ok5,sm5⟩:S.end_.Ok c/\S.Sm S.end_:=ok.endF (Nat.le_refl _)
 obtain ⟨ok8,sm8⟩:S.end_.come.Ok c/\S.Sm S.end_.come:=let ⟨a,b⟩:=ok5.comeF (Nat.le_refl _);⟨a,sm5.trans b⟩
 obtain ⟨ok11,sm11⟩:=ok.rest
 obtain ⟨ok14,sm14⟩:(S.rest.begins S.B.length).Ok (c+540)/\S.Sm (S.rest.begins S.B.length):=let ⟨a,b⟩:=ok11.beginF S.B.length (by rw [sm11.b];omega);⟨a.mono (by omega),sm11.trans b⟩
 have e5:S.end_=(BE S.G.length).foldl Pl.off1 (S.endK S.B.length):=rfl
 have e8:S.end_.come=(BE S.G.length).foldl Pl.come1 S.end_:=by rw [Pl.come,sm5.g]
 have e11:S.rest=(BE S.G.length).foldl Pl.quit1 S.end_.come:=by rw [Pl.rest,Pl.leaves_eq,sm8.g]
 refine Ae fun J3 h3=>?_
 have k3:∀ τ,AR W σ0 τ (S.endK S.B.length)->J3 τ:=by
  intro σ2 hσ2
  rw [h3]
  intro _
  refine Ae fun J6 h6=>?_
  have k6:∀ τ,AR W σ0 τ S.end_->J6 τ:=by
   intro s5 hσ5
   rw [h6]
   intro _
   refine Ae fun J9 h9=>?_
   have k9:∀ τ,AR W σ0 τ S.end_.come->J9 τ:=by
    intro s8 hσ8
    rw [h9]
    intro _
    refine Ae fun J12 h12=>?_
    have k12:∀ τ,AR W σ0 τ S.rest->J12 τ:=by
     intro s11 hs11
     rw [h12]
     intro _
     refine Ae fun J15 h15=>?_
     have k15:∀ τ,AR W σ0 τ (S.rest.begins S.B.length)->J15 τ:=by
      intro s14 hs14
      rw [h15]
      intro _
      show ∃ _,_
      have et:S.tick=(S.rest.begins S.B.length).lineK S.B.length:=rfl
      rw [et]
      generalize S.rest.begins S.B.length=X at *
      refine ⟨fun m i τ=>∃ k:Nat,m=S.B.length-k/\i=k/\k<=S.B.length/\AR W σ0 τ (X.lineK k),⟨_,0,rfl,rfl,by omega,by rw [X.lineK_zero];exact hs14⟩,?_⟩
      rintro m i τ ⟨k,rfl,rfl,hk,ht⟩ _
      obtain ⟨v,hb⟩:=ht.pblk
      have hT:=(hS.sm sm14).sub ht.sub
      have hlr:W.f.n=S.B.length:=by rw [hT.e.lenR,sm14.b]
      refine AD (Bg hb rfl (Ay (fun hlt=>?_) (fun hlt=>?_)))
      ·have hkl:k<S.B.length:=by omega
       have hkx:(k:Int)<(X.B.length:Int):=by rw [sm14.b];omega
       have hkli:k<X.lines.length:=by rw [ok14.ll,sm14.b];exact hkl
       have hkll:(k:Int)<((X.lineK k).lines.length:Int):=by
        have:(X.lineK k).lines.length=X.lines.length:=by simp [Pl.lineK]
        rw [this];omega
       refine Ae fun J27 h27=>?_
       have k27:∀ t',AR W σ0 t' (X.lineK (k+1))->J27 t':=by
        intro t' h'
        rw [h27]
        intro _
        exact AL (by omega) (AY _ (by omega) ⟨k+1,rfl,by omega,by omega,h'⟩)
       refine Ae fun J33 h33=>?_
       have k33:J33 (X.guests1 k) τ:=by
        rw [h33]
        intro _
        refine AD (Bg hb rfl (AD (Bg hb rfl (B1 ht.ird.2.2.2.1 (by omega) hkll ?_))))
        rw [X.lineK_lines hkli]
        refine ht.stLi (by omega) hkll fun t' h'=>k27 _ ?_
        rw [X.lineK_succ hkli]
        exact h'
       have hql:=ok14.qlen (r:=k) (by omega) hkx
       have hqs:=ok14.qs k (by omega) hkx
       have hsz:=ok14.sizes (r:=k) (by omega) hkx
       have hrl:(k:Int).toNat<(X.lineK k).queues.length:=by show _<X.queues.length;rw [ok14.lq];omega
       obtain ⟨b2,off,s,s3,hqA,hqn,hcell,ho,_,_⟩:=ht.que hrl
       change W.q.n=X.queues.length at hqn
       change Ak 3 aM s3 s.A s.n s.c (X.qu k) τ at ho
       have hqi:(k:Int)<(W.q.n:Int):=by rw [hqn,ok14.lq];exact hkx
       have hsn:s.n=(X.qu k).length:=ho.len
       have k33:J33 (AQ ((X.qu k).map fun g=>(X.gr g).size)) τ:=k33
       generalize X.qu k=Q at *
       refine ⟨fun m gu i τ2=>∃ t:Nat,m=Q.length-t/\i=t/\t<=Q.length/\gu=AQ ((Q.take t).map fun g=>(X.gr g).size)/\τ2=τ,⟨_,0,rfl,rfl,by omega,rfl,rfl⟩,?_⟩
       rintro m gu i τ2 ⟨t,rfl,rfl,ht2,rfl,rfl⟩ _
       refine AD (Bg hb rfl (KF hqA (by omega) hqi (Dc hcell (Ay (fun hlt2=>?_) (fun hlt2=>?_)))))
       ·have htl:t<Q.length:=by omega
        have b1:=hsz t ht2
        have b2:=hsz (t+1) htl
        have e2:AQ ((Q.take (t+1)).map fun g=>(X.gr g).size)=AQ ((Q.take t).map fun g=>(X.gr g).size)+(gd X.G Q[t]).size:=by
         rw [List.take_succ_eq_append_getElem htl,List.map_append,Dw]
         simp [AQ]
         rfl
        obtain ⟨g0,g1,_⟩:=hqs _ (List.getElem_mem htl)
        refine AD (Bg hb rfl (AD (Bg hb rfl (KF hqA (by omega) hqi (Dc hcell (B1 ho.rd (by omega) (by omega) ?_))))))
        rw [Bw htl]
        refine hT.e.gix g0 g1 fun b a _ d1 _ _ _=>A0 d1 (AL (by omega) (AL (by omega) (AY _ (by omega) ⟨t+1,rfl,by omega,by omega,e2.symm,rfl⟩)))
       ·have:t=Q.length:=by omega
        subst this
        rw [List.take_length]
        exact k33
      ·have:k=S.B.length:=by omega
       subst this
       exact Aj ⟨rfl,ht⟩
     generalize S.rest=T at *
     refine ⟨fun m i τ=>∃ k:Nat,m=S.B.length-k/\i=k/\k<=S.B.length/\AR W σ0 τ (T.begins k),⟨_,0,rfl,rfl,by omega,hs11⟩,?_⟩
     rintro m i τ ⟨k,rfl,rfl,hk,ht⟩ _
     obtain ⟨okY,smY⟩:=ok11.beginF k (by rw [sm11.b];omega)
     have smY:=sm11.trans smY
     have eY:T.begins (k+1)=(T.begins k).begin k:=Pl.begins_succ
     obtain ⟨v,hb⟩:=ht.pblk
     have hY:=hS.sm smY
     have hT:=hY.sub ht.sub
     have hlr:W.f.n=S.B.length:=by rw [hT.e.lenR,smY.b]
     refine AD (Bg hb rfl (Ay (fun hlt=>?_) (fun hlt=>?_)))
     ·have hkl:k<S.B.length:=by omega
      refine Ae fun J88 h88=>?_
      have k88:∀ t',AR W σ0 t' (T.begins (k+1))->J88 t':=by
       intro t' h'
       rw [h88]
       intro _
       exact AL (by omega) (AY _ (by omega) ⟨k+1,rfl,by omega,by omega,h'⟩)
      rw [eY] at k88
      generalize T.begins k=Y at *
      have hkx:(k:Int)<(Y.B.length:Int):=by rw [smY.b];omega
      have hkb:(k:Int)<(Y.began.length:Int):=by rw [okY.lb];exact hkx
      have hke:(k:Int)<(Y.ended.length:Int):=by rw [okY.le];exact hkx
      have hnow:=okY.nw
      have hen:=okY.en k (by omega) hkx
      refine Ae fun J94 h94=>?_
      have k94:Y.goesOn k=false->J94 τ:=by
       intro hg
       rw [h94]
       intro _
       refine AiN hY ht okY (by omega) (by omega) hkx fun σ' h'=>⟨_,rfl,?_⟩
       have hfo:=Px.of okY (r:=k) (by omega) hkx
       obtain ⟨f1,f2⟩:=Rs (Y.qu k) (Y.bt k).seats Y _ hfo
       have eb:Y.begin k=if (BX k (Y.qu k) (Y.bt k).seats Y).2<(Y.bt k).seats then (BX k (Y.qu k) (Y.bt k).seats Y).1.setB k Y.now else (BX k (Y.qu k) (Y.bt k).seats Y).1:=by
        unfold Pl.begin
        rw [if_neg (by simp [hg])]
       rw [eb] at k88
       generalize BX k (Y.qu k) (Y.bt k).seats Y=F at *
       refine Ay (fun hf=>?_) (fun hf=>?_)
       ·rw [if_pos hf] at k88
        obtain ⟨v1,hb1⟩:=h'.pblk
        have hkf:(k:Int)<(F.1.began.length:Int):=by rw [f1.lb,f2.b];exact hkx
        refine AD (Bg hb1 rfl (AD (Bx hb1 rfl (h'.stBe (by omega) hkf fun t' h''=>k88 _ ?_))))
        rw [← f2.n]
        exact h''
       ·rw [if_neg hf] at k88
        exact k88 _ h'
      refine Ae fun J109 h109=>?_
      have k109:J109 (Y.goesOn k) τ:=by
       rw [h109]
       intro _
       refine BR (fun hg=>?_) (fun hg=>?_)
       ·rw [Pl.begin_on hg] at k88
        exact k88 _ ht
       ·exact k94 hg
      refine AD (Bg hb rfl (B1 ht.ird.1 (by omega) hkb (Ay (fun h1=>?_) (fun h1=>?_))))
      ·rw [Pl.goesOn,decide_eq_true h1,Bool.true_or] at k109
       exact k109
      ·rw [Pl.goesOn,decide_eq_false h1,Bool.false_or] at k109
       refine AD (Bg hb rfl (B1 ht.ird.2.1 (by omega) hke (Ay (fun h2=>?_) (fun h2=>?_))))
       ·rw [decide_eq_true h2,Bool.true_and] at k109
        refine AD (Bx hb rfl (AD (Bg hb rfl (B1 ht.ird.2.1 (by omega) hke (AL (by omega) (AD (Bg hb rfl (hT.e.rix (by omega) hkx fun b4 a5 _ _ _ d3 _=>A0 d3 k109))))))))
       ·rw [decide_eq_false h2,Bool.false_and] at k109
        exact k109
     ·have:k=S.B.length:=by omega
      subst this
      exact k15 _ ht
    generalize S.end_.come=T at *
    refine ⟨fun m i τ=>∃ k:Nat,m=S.G.length-k/\i=k/\k<=S.G.length/\AR W σ0 τ ((BE k).foldl Pl.quit1 T),⟨_,0,rfl,rfl,by omega,hσ8⟩,?_⟩
    rintro m i τ ⟨k,rfl,rfl,hk,ht⟩ _
    obtain ⟨okY,smY⟩:=ok8.quitF (n:=k) (by rw [sm8.g];omega)
    have smY:=sm8.trans smY
    have eY:(BE (k+1)).foldl Pl.quit1 T=((BE k).foldl Pl.quit1 T).quit1 k:=OL
    obtain ⟨v,hb⟩:=ht.pblk
    have hY:=hS.sm smY
    have hT:=hY.sub ht.sub
    have hlr:W.l.n=S.G.length:=by rw [hT.e.lenL,smY.g]
    refine AD (Bg hb rfl (Ay (fun hlt=>?_) (fun hlt=>?_)))
    ·have hkl:k<S.G.length:=by omega
     refine Ae fun J149 h149=>?_
     have k149:∀ t',AR W σ0 t' ((BE (k+1)).foldl Pl.quit1 T)->J149 t':=by
      intro t' h'
      rw [h149]
      intro _
      exact AL (by omega) (AY _ (by omega) ⟨k+1,rfl,by omega,by omega,h'⟩)
     rw [eY] at k149
     generalize (BE k).foldl Pl.quit1 T=Y at *
     have hkx:(k:Int)<(Y.G.length:Int):=by rw [smY.g];omega
     have hgl:(k:Int).toNat<Y.guests.length:=by rw [okY.lg];omega
     have hnow:=okY.nw
     have hgs:=okY.gs k (by omega) hkx
     have hsi:=hgs.s
     refine AD (Bg hb rfl (ht.gix (by omega) hgl fun b o hA=>ht.gI0 hA hgl rfl (ht.gI1 hA hgl rfl (ht.gI2 hA hgl rfl (ht.gI3 hA hgl rfl (Ae fun J164 h164=>?_))))))
     have k164:J164 (Y.quits k) τ:=by
      rw [h164]
      intro _
      refine BR (fun hq=>?_) (fun hq=>?_)
      ·have hq2:=hq
       unfold Pl.quits at hq2
       simp only [Bool.and_eq_true,decide_eq_true_eq] at hq2
       rw [Pl.quit1,if_pos hq] at k149
       exact VQ hY ht okY (by omega) (by omega) hkx hq2.1 (fun e=>by cases e) fun v σ' h'=>k149 _ h'
      ·rw [Pl.quit1,if_neg (by simp [hq])] at k149
       exact k149 _ ht
     refine Ay (fun h2=>?_) (fun h2=>?_)
     ·rw [Pl.quits,decide_eq_true h2,Bool.true_and] at k164
      exact AD (Bx hb rfl (AL (by omega) (AD (Bg hb rfl (hT.e.gix (by omega) hkx fun b4 a5 _ _ _ d4 _=>A0 d4 k164)))))
     ·rw [Pl.quits,decide_eq_false h2,Bool.false_and] at k164
      exact k164
    ·have:k=S.G.length:=by omega
     subst this
     rw [← e11] at ht
     exact k12 _ ht
   generalize S.end_=T at *
   refine ⟨fun m i τ=>∃ k:Nat,m=S.G.length-k/\i=k/\k<=S.G.length/\AR W σ0 τ ((BE k).foldl Pl.come1 T),⟨_,0,rfl,rfl,by omega,hσ5⟩,?_⟩
   rintro m i τ ⟨k,rfl,rfl,hk,ht⟩ _
   obtain ⟨okY,smY⟩:=ok5.comeF (n:=k) (by rw [sm5.g];omega)
   have smY:=sm5.trans smY
   have eY:(BE (k+1)).foldl Pl.come1 T=((BE k).foldl Pl.come1 T).come1 k:=OL
   obtain ⟨v,hb⟩:=ht.pblk
   have hY:=hS.sm smY
   have hT:=hY.sub ht.sub
   have hlr:W.l.n=S.G.length:=by rw [hT.e.lenL,smY.g]
   refine AD (Bg hb rfl (Ay (fun hlt=>?_) (fun hlt=>?_)))
   ·have hkl:k<S.G.length:=by omega
    refine Ae fun J188 h188=>?_
    have k188:∀ t',AR W σ0 t' ((BE (k+1)).foldl Pl.come1 T)->J188 t':=by
     intro t' h'
     rw [h188]
     intro _
     exact AL (by omega) (AY _ (by omega) ⟨k+1,rfl,by omega,by omega,h'⟩)
    rw [eY] at k188
    generalize (BE k).foldl Pl.come1 T=Y at *
    have hkx:(k:Int)<(Y.G.length:Int):=by rw [smY.g];omega
    have hgl:(k:Int).toNat<Y.guests.length:=by rw [okY.lg];omega
    have hnow:=okY.nw
    have hgs:=okY.gs k (by omega) hkx
    have hsi:=hgs.s
    refine AD (Bg hb rfl (ht.gix (by omega) hgl fun b o hA=>ht.gI0 hA hgl rfl (ht.gI1 hA hgl rfl (ht.gI2 hA hgl rfl (ht.gI3 hA hgl rfl (Ae fun J203 h203=>?_))))))
    have k203:J203 (Y.comeA k) τ:=by
     rw [h203]
     intro _
     refine BR (fun hq=>?_) (fun hq=>?_)
     ·have hq2:=hq
      unfold Pl.comeA at hq2
      simp only [Bool.and_eq_true,decide_eq_true_eq] at hq2
      rw [Pl.come1,if_pos hq] at k188
      exact Ajn hY ht okY (by omega) hkx (okY.free (by omega)) (hgs.w2 (by omega)) fun v σ' h'=>k188 _ h'
     ·rw [Pl.come1,if_neg (by simp [hq])] at k188
      refine Ae fun J209 h209=>?_
      have k209:J209 (Y.comeB k) τ:=by
       rw [h209]
       intro _
       refine BR (fun hq=>?_) (fun hq=>?_)
       ·have hq2:=hq
        unfold Pl.comeB at hq2
        simp only [Bool.and_eq_true,decide_eq_true_eq] at hq2
        rw [if_pos hq] at k188
        exact Agz hY ht okY (by omega) hkx (hgs.w3 (by omega)) (hgs.w2 (by omega)) fun v σ' h'=>k188 _ h'
       ·rw [if_neg (by simp [hq])] at k188
        exact k188 _ ht
      refine Ay (fun h2=>?_) (fun h2=>?_)
      ·rw [Pl.comeB,decide_eq_true h2,Bool.true_and] at k209
       exact AD (Bx hb rfl (AL (by omega) (AD (Bx hb rfl k209))))
      ·rw [Pl.comeB,decide_eq_false h2,Bool.false_and] at k209
       exact k209
    refine Ay (fun h2=>?_) (fun h2=>?_)
    ·rw [Pl.comeA,decide_eq_true h2,Bool.true_and] at k203
     exact AD (Bg hb rfl (hT.e.gix (by omega) hkx fun b4 a5 d0 _ _ _ _=>A0 d0 (AD (Bx hb rfl k203))))
    ·rw [Pl.comeA,decide_eq_false h2,Bool.false_and] at k203
     exact k203
   ·have:k=S.G.length:=by omega
    subst this
    rw [← e8] at ht
    exact k9 _ ht
  generalize S.endK S.B.length=T at *
  refine ⟨fun m i τ=>∃ k:Nat,m=S.G.length-k/\i=k/\k<=S.G.length/\AR W σ0 τ ((BE k).foldl Pl.off1 T),⟨_,0,rfl,rfl,by omega,hσ2⟩,?_⟩
  rintro m i τ ⟨k,rfl,rfl,hk,ht⟩ _
  obtain ⟨okY,smY⟩:((BE k).foldl Pl.off1 T).Ok c/\T.Sm ((BE k).foldl Pl.off1 T):=by
   have:=O3 (f:=Pl.off1) (d:=0) ok2 k fun T' c' t1 t2 j hj=>t1.off2 (by omega) (by rw [t2.g,sm2.g];omega)
   simpa using this
  have smY:=sm2.trans smY
  have eY:(BE (k+1)).foldl Pl.off1 T=((BE k).foldl Pl.off1 T).off1 k:=OL
  obtain ⟨v,hb⟩:=ht.pblk
  have hY:=hS.sm smY
  have hT:=hY.sub ht.sub
  have hlr:W.l.n=S.G.length:=by rw [hT.e.lenL,smY.g]
  refine AD (Bg hb rfl (Ay (fun hlt=>?_) (fun hlt=>?_)))
  ·have hkl:k<S.G.length:=by omega
   refine Ae fun J239 h239=>?_
   have k239:∀ t',AR W σ0 t' ((BE (k+1)).foldl Pl.off1 T)->J239 t':=by
    intro t' h'
    rw [h239]
    intro _
    exact AL (by omega) (AY _ (by omega) ⟨k+1,rfl,by omega,by omega,h'⟩)
   rw [eY] at k239
   generalize (BE k).foldl Pl.off1 T=Y at *
   have hkx:(k:Int)<(Y.G.length:Int):=by rw [smY.g];omega
   have hgl:(k:Int).toNat<Y.guests.length:=by rw [okY.lg];omega
   have hgs:=okY.gs k (by omega) hkx
   refine AD (Bg hb rfl (ht.gix (by omega) hgl fun b o hA=>ht.gI0 hA hgl rfl (ht.gI1 hA hgl rfl (ht.gI2 hA hgl rfl (ht.gI3 hA hgl rfl (Ae fun J254 h254=>?_))))))
   have k254:J254 (Y.off k) τ:=by
    rw [h254]
    intro _
    refine BR (fun hq=>?_) (fun hq=>?_)
    ·have hq2:=hq
     unfold Pl.off at hq2
     simp only [Bool.and_eq_true,decide_eq_true_eq] at hq2
     rw [Pl.off1,if_pos hq] at k239
     exact Ajn hY ht okY (by omega) hkx (okY.free (by omega)) (hgs.w2 (by omega)) fun v σ' h'=>k239 _ h'
    ·rw [Pl.off1,if_neg (by simp [hq])] at k239
     exact k239 _ ht
   refine Ay (fun h2=>?_) (fun h2=>?_)
   ·have hw0:=hgs.w3 (by omega)
    have hw1:=hgs.w2 (by omega)
    obtain ⟨q0,q1⟩:=okY.want hw0 hw1
    rw [Pl.off,decide_eq_true h2,Bool.true_and] at k254
    exact AD (Bg hb rfl (AD (Bg hb rfl (hT.e.gix (by omega) hkx fun b4 a5 _ _ d3 _ hwt=>Dc d3 (B1 hwt hw0 hw1 (B1 ht.ird.2.1 q0 (by rw [okY.le];exact q1) (AD (Bx hb rfl k254))))))))
   ·rw [Pl.off,decide_eq_false h2,Bool.false_and] at k254
    exact k254
  ·have:k=S.G.length:=by omega
   subst this
   rw [← e5] at ht
   exact k6 _ ht
 refine ⟨fun m i τ=>∃ k:Nat,m=S.B.length-k/\i=k/\k<=S.B.length/\AR W σ0 τ (S.endK k),⟨_,0,rfl,rfl,by omega,by rw [Pl.endK_zero];exact h⟩,?_⟩
 rintro m i τ ⟨k,rfl,rfl,hk,ht⟩ _
 obtain ⟨v,hb⟩:=ht.pblk
 have hT:=hS.sub ht.sub
 have hlr:W.f.n=S.B.length:=hT.e.lenR
 refine AD (Bg hb rfl (Ay (fun hlt=>?_) (fun hlt=>?_)))
 ·have hkl:k<S.B.length:=by omega
  refine Ae fun J286 h286=>?_
  have k286:∀ t',AR W σ0 t' (S.endK (k+1))->J286 t':=by
   intro t' h'
   rw [h286]
   intro _
   exact AL (by omega) (AY _ (by omega) ⟨k+1,rfl,by omega,by omega,h'⟩)
  have hkx:(k:Int)<(S.B.length:Int):=by omega
  have hkbn:k<S.began.length:=by rw [ok.lb];exact hkl
  have hken:k<S.ended.length:=by rw [ok.le];exact hkl
  have hlb:(S.endK k).began.length=S.began.length:=by simp [Pl.endK]
  have hle:(S.endK k).ended.length=S.ended.length:=by simp [Pl.endK]
  have hkb:(k:Int)<((S.endK k).began.length:Int):=by rw [hlb];omega
  have hke:(k:Int)<((S.endK k).ended.length:Int):=by rw [hle];omega
  have hbe:=ok.be k (by omega) hkx
  have hnow:=ok.nw
  refine Ae fun J292 h292=>?_
  have k292:S.ends k=true->J292 τ:=by
   intro he
   rw [h292]
   intro _
   refine AD (Bg hb rfl (ht.stBe (by omega) hkb fun τ1 h1=>?_))
   obtain ⟨v1,hb1⟩:=h1.pblk
   refine AD (Bg hb1 rfl (AD (Bx hb1 rfl (h1.stEn (by omega) hke fun τ2 h2=>k286 _ ?_))))
   rw [S.endK_yes he hkbn hken]
   exact h2
  refine Ae fun J310 h310=>?_
  have k310:J310 (!S.ends k) τ:=by
   rw [h310]
   intro _
   refine BR (fun he=>?_) (fun he=>?_)
   ·have he:S.ends k=false:=by simpa using he
    rw [S.endK_no he] at k286
    exact k286 _ ht
   ·exact k292 (by simpa using he)
  refine AD (Bg hb rfl (B1 ht.ird.1 (by omega) hkb ?_))
  rw [S.endK_began hkbn]
  refine Ay (fun h1=>?_) (fun h1=>?_)
  ·rw [Pl.ends,decide_eq_false (show ¬ 0<=gt S.began k by omega),Bool.false_and] at k310
   exact k310
  ·rw [Pl.ends,decide_eq_true (show 0<=gt S.began k by omega),Bool.true_and] at k310
   refine AD (Bx hb rfl (AD (Bg hb rfl (B1 ht.ird.1 (by omega) hkb ?_))))
   rw [S.endK_began hkbn]
   exact AL (by show _<=S.now-_/\S.now-_<=_;omega) (AD (Bg hb rfl (hT.e.rix (by omega) hkx fun b4 a5 _ _ d2 _ _=>A0 d2 k310)))
 ·have:k=S.B.length:=by omega
  subst this
  exact k3 _ ht
end
end Go.Proofs.YtoelhdjloaknbaaGreat
