/- What this claim rests on. -/
import Derived.Test.YtoelhdjloaknbaaGreatUSa3
import Derived.Test.YtoelhdjloaknbaaGreatUNt1
import Derived.Test.YtoelhdjloaknbaaGreatUNo1
namespace Go.Proofs.YtoelhdjloaknbaaGreat
open Go.RowKit Go.Proofs.Tryz
def AC (n:Nat) (p:Nat->Bool):List Nat:=(List.range n).filter p
def emb (D:List Nat) (i:Int):Int:=((D.getD i.toNat 0:Nat):Int)
theorem Iu {n:Nat} {p:Nat->Bool}:AC (n+1) p=AC n p++(if p n=true then [n] else []):=by
 unfold AC
 rw [List.range_succ,List.filter_append,List.filter_cons,List.filter_nil]
theorem I1 {n:Nat} {p:Nat->Bool}:∀ j∈AC n p,j<n/\p j=true:=fun j hj=>by
 unfold AC at hj
 rw [List.mem_filter,List.mem_range] at hj
 exact hj
theorem P7 {n:Nat} {p:Nat->Bool} {a b:Nat} (ha:a<(AC n p).length) (hb:b<(AC n p).length) (e:(AC n p)[a]=(AC n p)[b]):a=b:=by
 have h:(AC n p).Pairwise (· < ·):=List.Pairwise.sublist List.filter_sublist List.pairwise_lt_range
 rw [List.pairwise_iff_getElem] at h
 rcases Nat.lt_trichotomy a b with x | x | x
 ·have:=h a b ha hb x
  omega
 ·exact x
 ·have:=h b a hb ha x
  omega
theorem XY {n:Nat} {p:Nat->Bool}:∀ m,m<=n->AC m p <+: AC n p:=by
 intro m hm
 induction n with
 | zero=>
  obtain rfl:m=0:=by omega
  exact List.prefix_refl _
 | succ n ih=>
  rcases Nat.lt_or_ge m (n+1) with h | h
  ·rw [Iu]
   exact (ih (by omega)).trans (List.prefix_append ..)
  ·obtain rfl:m=n+1:=by omega
   exact List.prefix_refl _
theorem VE {n:Nat} {p:Nat->Bool} {m:Nat} (hm:m<n) (hp:p m=true):(AC m p).length<(AC n p).length/\(AC n p).getD (AC m p).length 0=m:=by
 have h:=XY (p:=p) (m+1) (show m+1<=n by omega)
 rw [Iu,if_pos hp] at h
 obtain ⟨t,ht⟩:=h
 rw [← ht]
 refine ⟨by simp,?_⟩
 simp [List.getD]
theorem NU {D:List Nat} {i:Nat} (h:i<D.length):emb D (i:Nat)=(D[i]:Nat):=by
 unfold emb
 simp [List.getD,h]
structure Emb (n:Nat) (p:Nat->Bool) (S T:Pl):Prop where
 w:T.walk=S.walk
 b:T.B=S.B
 nw:T.now=S.now
 lG:S.G.length=n
 lg:S.guests.length=n
 lh:S.homes.length=n
 lq:S.queues.length=S.B.length
 lq':T.queues.length=S.B.length
 G:T.G=(AC n p).map fun j:Nat=>S.gr (j:Nat)
 gu:T.guests=(AC n p).map fun j:Nat=>S.gu (j:Nat)
 ho:T.homes=(AC n p).map fun j:Nat=>gt S.homes (j:Nat)
 qu:∀ r:Int,S.qu r=(T.qu r).map (emb (AC n p))
 qr:∀ r:Int,∀ g∈T.qu r,0<=g/\g<(AC n p).length
 be:T.began=S.began
 en:T.ended=S.ended
 aw:∀ k:Nat,k<n->p k=false->(S.gu (k:Nat)).st=0/\S.now<(S.gr (k:Nat)).came
section
variable {n:Nat} {p:Nat->Bool} {S T:Pl} {i:Int}
theorem VB {α:Type} {f:Nat->α} {d:α} (h0:0<=i) (h1:i<(AC n p).length):((AC n p).map f).getD i.toNat d=f (emb (AC n p) i).toNat:=by
 obtain ⟨k,rfl⟩:∃ k:Nat,i=k:=⟨i.toNat,by omega⟩
 have hk:k<(AC n p).length:=by omega
 rw [NU hk]
 simp [List.getD,hk]
theorem XF (h0:0<=i) (h1:i<(AC n p).length):0<=emb (AC n p) i/\emb (AC n p) i<n/\p (emb (AC n p) i).toNat=true:=by
 obtain ⟨k,rfl⟩:∃ k:Nat,i=k:=⟨i.toNat,by omega⟩
 have hk:k<(AC n p).length:=by omega
 rw [NU hk]
 have:=I1 _ (List.getElem_mem hk)
 rw [Int.toNat_natCast]
 exact ⟨by omega,by omega,this.2⟩
theorem Zh {j:Int} (h0:0<=i) (h1:i<(AC n p).length) (j0:0<=j) (j1:j<(AC n p).length) (e:emb (AC n p) i=emb (AC n p) j):i=j:=by
 obtain ⟨a,rfl⟩:∃ k:Nat,i=k:=⟨i.toNat,by omega⟩
 obtain ⟨b,rfl⟩:∃ k:Nat,j=k:=⟨j.toNat,by omega⟩
 have ha:a<(AC n p).length:=by omega
 have hb:b<(AC n p).length:=by omega
 rw [NU ha,NU hb] at e
 have:=P7 ha hb (by omega)
 omega
theorem Vz {α:Type} {f g:Nat->α} {x:α} (h0:0<=i) (h1:i<(AC n p).length) (hs:g (emb (AC n p) i).toNat=x) (hn:∀ j,j<n->j≠(emb (AC n p) i).toNat->g j=f j):(AC n p).map g=((AC n p).map f).set i.toNat x:=by
 obtain ⟨k,rfl⟩:∃ k:Nat,i=k:=⟨i.toNat,by omega⟩
 have hk:k<(AC n p).length:=by omega
 rw [NU hk] at hs hn
 simp only [Int.toNat_natCast] at hs hn ⊢
 refine List.ext_getElem (by simp) fun j h2 h3=>?_
 have hj:j<(AC n p).length:=by simpa using h2
 rw [List.getElem_map,List.getElem_set,List.getElem_map]
 by_cases e:k=j
 ·subst e
  rw [if_pos rfl]
  exact hs
 ·rw [if_neg e]
  refine hn _ (I1 _ (List.getElem_mem hj)).1 fun e2=>e ?_
  exact (P7 hj hk e2).symm
theorem Emb.gui (h:Emb n p S T) (h0:0<=i) (h1:i<(AC n p).length):T.gu i=S.gu (emb (AC n p) i):=by
 unfold Pl.gu
 rw [h.gu,VB h0 h1]
 unfold Pl.gu
 rw [Int.toNat_natCast]
theorem Emb.gri (h:Emb n p S T) (h0:0<=i) (h1:i<(AC n p).length):T.gr i=S.gr (emb (AC n p) i):=by
 unfold Pl.gr
 rw [h.G,VB h0 h1]
 unfold Pl.gr
 rw [Int.toNat_natCast]
theorem Emb.bti (h:Emb n p S T) (r:Int):T.bt r=S.bt r:=by
 unfold Pl.bt
 rw [h.b]
theorem Ur {S:Pl} {g k:Int} {x:Gs} (hg:g.toNat<S.guests.length):(S.setG g x).gu k=if g.toNat=k.toNat then x else S.gu k:=by
 show (S.guests.set g.toNat x).getD k.toNat Gs.d=_
 rw [List.getD_eq_getElem?_getD,List.getElem?_set]
 by_cases e:g.toNat=k.toNat
 ·rw [if_pos e,if_pos e,if_pos hg]
  rfl
 ·rw [if_neg e,if_neg e,← List.getD_eq_getElem?_getD]
  rfl
theorem Emb.setG (h:Emb n p S T) (h0:0<=i) (h1:i<(AC n p).length) (x:Gs):Emb n p (S.setG (emb (AC n p) i) x) (T.setG i x):=by
 obtain ⟨e0,e1,e2⟩:=XF (i:=i) h0 h1
 have hl:(emb (AC n p) i).toNat<S.guests.length:=by rw [h.lg];omega
 refine ⟨h.w,h.b,h.nw,h.lG,?_,h.lh,h.lq,h.lq',h.G,?_,h.ho,h.qu,h.qr,h.be,h.en,fun k hk hp=>?_⟩
 ·show (S.guests.set _ _).length=n
  rw [List.length_set]
  exact h.lg
 ·show T.guests.set i.toNat x=_
  rw [h.gu]
  symm
  refine Vz h0 h1 ?_ fun j hj hne=>?_
  ·rw [Ur hl,if_pos (by omega)]
  ·rw [Ur hl,if_neg (by omega)]
 ·have:=h.aw k hk hp
  rw [Ur hl,if_neg]
  ·exact this
  ·intro e
   have:(emb (AC n p) i).toNat=k:=by omega
   rw [this,hp] at e2
   cases e2
theorem Emb.setH (h:Emb n p S T) (h0:0<=i) (h1:i<(AC n p).length) (t:Int):Emb n p (S.setH (emb (AC n p) i) t) (T.setH i t):=by
 obtain ⟨e0,e1,e2⟩:=XF (i:=i) h0 h1
 refine ⟨h.w,h.b,h.nw,h.lG,h.lg,?_,h.lq,h.lq',h.G,h.gu,?_,h.qu,h.qr,h.be,h.en,h.aw⟩
 ·show (S.homes.set _ _).length=n
  rw [List.length_set]
  exact h.lh
 ·show T.homes.set i.toNat t=_
  rw [h.ho]
  symm
  have hg:∀ k:Nat,gt (S.homes.set (emb (AC n p) i).toNat t) (k:Nat)=if (emb (AC n p) i).toNat=k then t else gt S.homes (k:Nat):=fun k=>by
   unfold gt
   rw [List.getD_eq_getElem?_getD,List.getElem?_set,Int.toNat_natCast]
   by_cases e:(emb (AC n p) i).toNat=k
   ·rw [if_pos e,if_pos e,if_pos (by rw [h.lh];omega)]
    rfl
   ·rw [if_neg e,if_neg e,← List.getD_eq_getElem?_getD]
  refine Vz h0 h1 ?_ fun j hj hne=>?_
  ·show gt (S.homes.set _ _) _=t
   rw [hg,if_pos (by omega)]
  ·show gt (S.homes.set _ _) _=_
   rw [hg,if_neg (by omega)]
theorem UA {S:Pl} {r k:Int} {q:List Int}:(S.setQ r q).qu k=if r.toNat=k.toNat/\r.toNat<S.queues.length then q else S.qu k:=by
 show (S.queues.set r.toNat q).getD k.toNat []=_
 rw [List.getD_eq_getElem?_getD,List.getElem?_set]
 by_cases e:r.toNat=k.toNat
 ·by_cases h:r.toNat<S.queues.length
  ·rw [if_pos e,if_pos h,if_pos ⟨e,h⟩]
   rfl
  ·rw [if_pos e,if_neg h,if_neg fun x=>h x.2]
   show []=S.queues.getD k.toNat []
   rw [List.getD_eq_getElem?_getD,List.getElem?_eq_none (by omega)]
   rfl
 ·rw [if_neg e,if_neg fun x=>e x.1,← List.getD_eq_getElem?_getD]
  rfl
theorem Emb.setQ (h:Emb n p S T) {r:Int} {q:List Int} (hq:∀ g∈q,0<=g/\g<(AC n p).length):Emb n p (S.setQ r (q.map (emb (AC n p)))) (T.setQ r q):=by
 refine ⟨h.w,h.b,h.nw,h.lG,h.lg,h.lh,?_,?_,h.G,h.gu,h.ho,fun k=>?_,fun k g hg=>?_,h.be,h.en,h.aw⟩
 ·show (S.queues.set _ _).length=_
  rw [List.length_set]
  exact h.lq
 ·show (T.queues.set _ _).length=_
  rw [List.length_set]
  exact h.lq'
 ·rw [UA,UA,h.lq,h.lq']
  split
  ·rfl
  ·exact h.qu k
 ·rw [UA] at hg
  split at hg
  ·exact hq g hg
  ·exact h.qr k g hg
theorem Emb.stand (h:Emb n p S T) (h0:0<=i) (h1:i<(AC n p).length):Emb n p (S.stand (emb (AC n p) i)) (T.stand i):=by
 unfold Pl.stand
 rw [h.gui h0 h1,h.gri h0 h1,h.nw,h.qu]
 have e:(T.qu (gt (S.gr (emb (AC n p) i)).wants (S.gu (emb (AC n p) i)).want)).map (emb (AC n p))++[emb (AC n p) i]=(T.qu (gt (S.gr (emb (AC n p) i)).wants (S.gu (emb (AC n p) i)).want)++[i]).map (emb (AC n p)):=by simp
 rw [e]
 refine (h.setG h0 h1 _).setQ fun g hg=>?_
 rcases List.mem_append.1 hg with hg | hg
 ·exact h.qr _ g hg
 ·rw [List.mem_singleton] at hg
  subst hg
  exact ⟨h0,h1⟩
theorem Emb.on (h:Emb n p S T) (h0:0<=i) (h1:i<(AC n p).length):Emb n p (S.on (emb (AC n p) i)) (T.on i):=by
 unfold Pl.on
 rw [h.gui h0 h1,h.gri h0 h1,h.nw,h.w]
 split
 ·exact (h.setG h0 h1 _).setH h0 h1 _
 ·split
  ·exact (h.setG h0 h1 _).stand h0 h1
  ·exact h.setG h0 h1 _
theorem Emb.addV (h:Emb n p S T) (v v':Vis):Emb n p (S.addV v) (T.addV v'):=⟨h.w,h.b,h.nw,h.lG,h.lg,h.lh,h.lq,h.lq',h.G,h.gu,h.ho,h.qu,h.qr,h.be,h.en,h.aw⟩
theorem Emb.setT (h:Emb n p S T) (r t r' t':Int):Emb n p (S.setT r t) (T.setT r' t'):=⟨h.w,h.b,h.nw,h.lG,h.lg,h.lh,h.lq,h.lq',h.G,h.gu,h.ho,h.qu,h.qr,h.be,h.en,h.aw⟩
theorem Emb.unq (h:Emb n p S T) (h0:0<=i) (h1:i<(AC n p).length) (b:Bool):Emb n p (S.unq (emb (AC n p) i) b) (T.unq i b):=by
 unfold Pl.unq
 refine Emb.addV ?_ _ _
 rw [h.gui h0 h1,h.gri h0 h1,h.qu]
 have e:∀ q:List Int,(∀ g∈q,0<=g/\g<(AC n p).length)->(q.map (emb (AC n p))).filter (fun k=>decide (k≠emb (AC n p) i))=(q.filter fun k=>decide (k≠i)).map (emb (AC n p)):=fun q hq=>by
  rw [List.filter_map]
  congr 1
  refine List.filter_congr fun k hk=>?_
  show decide (emb (AC n p) k≠emb (AC n p) i)=decide (k≠i)
  refine decide_eq_decide.2 ⟨fun x y=>x (by rw [y]),fun x y=>x (Zh (hq k hk).1 (hq k hk).2 h0 h1 y)⟩
 rw [e _ (h.qr _)]
 exact h.setQ fun g hg=>h.qr _ g (List.mem_filter.1 hg).1
theorem Emb.leave (h:Emb n p S T) (h0:0<=i) (h1:i<(AC n p).length) (b:Bool):Emb n p (S.leave (emb (AC n p) i) b) (T.leave i b):=by
 have ep:T.price i=S.price (emb (AC n p) i):=by
  unfold Pl.price
  rw [h.gui h0 h1,h.gri h0 h1,h.bti]
 unfold Pl.leave
 split
 ·refine Emb.setT ?_ _ _ _ _
  rw [h.gui h0 h1,h.nw,ep]
  exact (h.unq h0 h1 true).setG h0 h1 _
 ·exact (h.unq h0 h1 false).on h0 h1
theorem Emb.fill {r:Int}:∀ (q:List Int) (left:Int) (S T:Pl),Emb n p S T->(∀ g∈q,0<=g/\g<(AC n p).length)->Emb n p (BU r (q.map (emb (AC n p))) left S).1 (BU r q left T).1/\(BU r (q.map (emb (AC n p))) left S).2=(BU r q left T).2
 | [],_,_,_,h,_=>⟨h,rfl⟩
 | g::q,left,S,T,h,hq=>by
  obtain ⟨g0,g1⟩:=hq g (by simp)
  have hq':∀ x∈q,0<=x/\x<(AC n p).length:=fun x hx=>hq x (by simp [hx])
  have eb:T.bad r g=S.bad r (emb (AC n p) g):=by
   unfold Pl.bad
   rw [h.gui g0 g1,h.gri g0 g1,h.bti]
  rw [List.map_cons,Ji,Ji,eb,h.gri g0 g1,h.bti]
  split
  ·exact Emb.fill q left _ _ (h.leave g0 g1 false) hq'
  ·split
   ·exact Emb.fill q _ _ _ (h.leave g0 g1 true) hq'
   ·split
    ·exact Emb.fill q left _ _ h hq'
    ·exact ⟨h,rfl⟩
theorem Emb.setB (h:Emb n p S T) (r t:Int):Emb n p (S.setB r t) (T.setB r t):=⟨h.w,h.b,h.nw,h.lG,h.lg,h.lh,h.lq,h.lq',h.G,h.gu,h.ho,h.qu,h.qr,by show T.began.set _ _=S.began.set _ _;rw [h.be],h.en,h.aw⟩
theorem Emb.begin (h:Emb n p S T) (r:Int):Emb n p (S.begin r) (T.begin r):=by
 have eg:T.goesOn r=S.goesOn r:=by
  unfold Pl.goesOn
  rw [h.be,h.en,h.nw,h.bti]
 unfold Pl.begin
 rw [eg,h.qu r,h.bti,h.nw]
 split
 ·exact h
 ·obtain ⟨h1,h2⟩:=Emb.fill (r:=r) (T.qu r) (S.bt r).seats S T h (h.qr r)
  rw [h2]
  split
  ·exact h1.setB r _
  ·exact h1
theorem Emb.begins (h:Emb n p S T):∀ m:Nat,Emb n p (S.begins m) (T.begins m)
 | 0=>h
 | m+1=>by
  rw [Pl.begins_succ,Pl.begins_succ]
  exact (Emb.begins h m).begin m
theorem Emb.endK (h:Emb n p S T) (m:Nat):Emb n p (S.endK m) (T.endK m):=by
 have ee:∀ r,T.ends r=S.ends r:=fun r=>by
  unfold Pl.ends
  rw [h.be,h.nw,h.bti]
 refine ⟨h.w,h.b,h.nw,h.lG,h.lg,h.lh,h.lq,h.lq',h.G,h.gu,h.ho,h.qu,h.qr,?_,?_,h.aw⟩
 ·show (List.range T.began.length).map _=(List.range S.began.length).map _
  rw [h.be]
  simp only [ee]
 ·show (List.range T.ended.length).map _=(List.range S.ended.length).map _
  rw [h.en]
  simp only [ee,h.nw]
theorem Emb.lineK (h:Emb n p S T) (m m':Nat):Emb n p (S.lineK m) (T.lineK m'):=⟨h.w,h.b,h.nw,h.lG,h.lg,h.lh,h.lq,h.lq',h.G,h.gu,h.ho,h.qu,h.qr,h.be,h.en,h.aw⟩
theorem Emb.fold {f:Pl->Int->Pl} (h:Emb n p S T) (hin:∀ S T,Emb n p S T->∀ i:Int,0<=i->i<(AC n p).length->Emb n p (f S (emb (AC n p) i)) (f T i)) (hout:∀ S T,Emb n p S T->∀ k:Nat,k<n->p k=false->f S (k:Nat)=S):∀ m,m<=n->Emb n p ((Bn m).foldl f S) ((Bn (AC m p).length).foldl f T)
 | 0,_=>h
 | m+1,hm=>by
  have ih:=Emb.fold h hin hout m (by omega)
  rw [OJ,Iu]
  by_cases e:p m=true
  ·obtain ⟨a1,a2⟩:=VE (n:=n) (by omega) e
   rw [if_pos e,List.length_append]
   show Emb n p _ ((Bn ((AC m p).length+1)).foldl f T)
   rw [OJ]
   have h3:=hin _ _ ih ((AC m p).length:Nat) (by omega) (by omega)
   have e3:emb (AC n p) (((AC m p).length:Nat):Int)=(m:Nat):=by
    unfold emb
    rw [Int.toNat_natCast,a2]
   rw [e3] at h3
   exact h3
  ·have e:p m=false:=by simpa using e
   rw [if_neg (by rw [e];decide),List.append_nil,hout _ _ ih m (by omega) e]
   exact ih
theorem Emb.tick (h:Emb n p S T):Emb n p S.tick T.tick:=by
 have hT:∀ {S T:Pl},Emb n p S T->T.G.length=(AC n p).length:=fun h=>by rw [h.G,List.length_map]
 have h1:Emb n p S.end_ T.end_:=by
  rw [Pl.end_eq,Pl.end_eq,h.lG,hT h,h.b]
  refine (h.endK S.B.length).fold (f:=Pl.off1) (fun S T h i h0 h1=>?_) (fun S T h k hk hp=>?_) n (Nat.le_refl _)
  ·have e:T.off i=S.off (emb (AC n p) i):=by
    unfold Pl.off
    rw [h.gui h0 h1,h.gri h0 h1,h.en,h.nw]
   unfold Pl.off1
   rw [e]
   split
   ·exact h.on h0 h1
   ·exact h
  ·unfold Pl.off1 Pl.off
   rw [(h.aw k hk hp).1,if_neg (by simp)]
 have h2:Emb n p S.end_.come T.end_.come:=by
  unfold Pl.come
  rw [h1.lG,hT h1]
  refine h1.fold (f:=Pl.come1) (fun S T h i h0 h1=>?_) (fun S T h k hk hp=>?_) n (Nat.le_refl _)
  ·have eA:T.comeA i=S.comeA (emb (AC n p) i):=by
    unfold Pl.comeA
    rw [h.gui h0 h1,h.gri h0 h1,h.nw]
   have eB:T.comeB i=S.comeB (emb (AC n p) i):=by
    unfold Pl.comeB
    rw [h.gui h0 h1,h.nw,h.w]
   unfold Pl.come1
   rw [eA,eB]
   split
   ·exact h.on h0 h1
   ·split
    ·exact h.stand h0 h1
    ·exact h
  ·obtain ⟨a1,a2⟩:=h.aw k hk hp
   unfold Pl.come1 Pl.comeA Pl.comeB
   rw [a1,decide_eq_false (by omega:¬ (S.gr (k:Nat)).came=S.now)]
   rfl
 have h3:Emb n p S.rest T.rest:=by
  unfold Pl.rest
  rw [Pl.leaves_eq,Pl.leaves_eq,h2.lG,hT h2]
  refine h2.fold (f:=Pl.quit1) (fun S T h i h0 h1=>?_) (fun S T h k hk hp=>?_) n (Nat.le_refl _)
  ·have e:T.quits i=S.quits (emb (AC n p) i):=by
    unfold Pl.quits
    rw [h.gui h0 h1,h.gri h0 h1,h.nw]
   unfold Pl.quit1 Pl.quit
   rw [e]
   split
   ·exact h.leave h0 h1 false
   ·exact h
  ·unfold Pl.quit1 Pl.quits
   rw [(h.aw k hk hp).1,if_neg (by simp)]
 unfold Pl.tick
 rw [h.b]
 exact (h3.begins S.B.length).lineK _ _
end
theorem PT {f:Pl->Int->Pl} (h:∀ (T:Pl) k,T.Sm (f T k)):∀ (l:List Int) (S:Pl),S.Sm (l.foldl f S)
 | [],S=>Pl.Sm.refl S
 | k::l,S=>(h S k).trans (PT h l _)
theorem PN {r:Int}:∀ (q:List Int) (left:Int) (T:Pl),T.Sm (BU r q left T).1
 | [],_,T=>Pl.Sm.refl T
 | g::q,left,T=>by
  rw [Ji]
  split
  ·exact (Pl.Sm.leave T g false).trans (PN q _ _)
  ·split
   ·exact (Pl.Sm.leave T g true).trans (PN q _ _)
   ·split
    ·exact PN q _ _
    ·exact Pl.Sm.refl T
theorem Yq (S:Pl) (r:Int):S.Sm (S.begin r):=by
 unfold Pl.begin
 split
 ·exact Pl.Sm.refl S
 ·have:=PN (r:=r) (S.qu r) (S.bt r).seats S
  split
  ·exact this.trans (Pl.Sm.setB _ r _)
  ·exact this
theorem Ru (S:Pl):∀ m:Nat,S.Sm (S.begins m)
 | 0=>Pl.Sm.refl S
 | m+1=>by
  rw [Pl.begins_succ]
  exact (Ru S m).trans (Yq _ m)
theorem PS (S:Pl):S.Sm S.tick:=by
 have h1:S.Sm S.end_:=by
  rw [Pl.end_eq]
  refine (Pl.Sm.endK S S.B.length).trans (PT (f:=Pl.off1) (fun T k=>?_) _ _)
  unfold Pl.off1
  split
  ·exact Pl.Sm.on T k
  ·exact Pl.Sm.refl T
 have h3:S.end_.come.Sm S.rest:=by
  unfold Pl.rest
  rw [Pl.leaves_eq]
  refine PT (f:=Pl.quit1) (fun T k=>?_) _ _
  unfold Pl.quit1
  split
  ·exact Pl.Sm.leave T k false
  ·exact Pl.Sm.refl T
 exact ((h1.trans (PT (f:=Pl.come1) Pl.Sm.come1 _ _)).trans h3).trans ((Ru S.rest S.B.length).trans (Pl.Sm.lineK _ _))
theorem PO (w:Int) (B:List BthG) (G:List Grp):∀ k:Nat,(Pl.run w B G k).G=G/\(Pl.run w B G k).B=B/\(Pl.run w B G k).now=k
 | 0=>⟨rfl,rfl,rfl⟩
 | k+1=>⟨(PS _).g.trans (PO w B G k).1,(PS _).b.trans (PO w B G k).2.1,rfl⟩
theorem Emb.later {n:Nat} {p:Nat->Bool} {S T:Pl} (h:Emb n p S T) (t:Int) (ha:∀ k:Nat,k<n->p k=false->t<(S.gr (k:Nat)).came):Emb n p (S.later t) (T.later t):=
 ⟨h.w,h.b,rfl,h.lG,h.lg,h.lh,h.lq,h.lq',h.G,h.gu,h.ho,h.qu,h.qr,h.be,h.en,fun k hk hp=>⟨(h.aw k hk hp).1,ha k hk hp⟩⟩
theorem VL {w:Int} {B:List BthG} {G:List Grp} {p:Nat->Bool} {t:Int} (ha:∀ k:Nat,k<G.length->p k=false->t<=(gd G (k:Nat)).came):∀ k:Nat,(k:Int)<=t->Emb G.length p ((Pl.run w B G k).later ((k:Int)-1)) ((Pl.run w B ((AC G.length p).map fun j:Nat=>gd G (j:Nat)) k).later ((k:Int)-1))
 | 0,ht=>by
  have hr:∀ {α:Type} {x:α} {m:Nat},List.replicate (AC m p).length x=(AC m p).map fun _=>x:=fun {α x m}=>by rw [List.map_const']
  refine ⟨rfl,rfl,rfl,rfl,?_,?_,?_,?_,rfl,?_,?_,fun r=>?_,fun r g hg=>?_,rfl,rfl,fun k hk hp=>⟨?_,?_⟩⟩
  ·show (G.map _).length=_
   simp
  ·show (List.replicate G.length _).length=_
   simp
  ·show (List.replicate B.length _).length=_
   simp
   rfl
  ·show (List.replicate B.length _).length=_
   simp
   rfl
  ·show ((AC G.length p).map _).map _=_
   rw [List.map_map]
   refine List.map_congr_left fun j hj=>?_
   have:=(I1 j hj).1
   show _=(G.map _).getD _ _
   unfold gd
   simp [List.getD,this]
  ·show List.replicate ((AC G.length p).map _).length _=_
   rw [List.length_map,hr]
   refine List.map_congr_left fun j hj=>?_
   have:=(I1 j hj).1
   show _=gt (List.replicate G.length (-1)) _
   unfold gt
   simp [List.getD,this]
  ·have e:∀ m:Nat,(List.replicate B.length ([]:List Int)).getD m []=[]:=fun m=>by
    rw [List.getD_eq_getElem?_getD,List.getElem?_replicate]
    split<;>rfl
   show (List.replicate B.length []).getD _ _=((List.replicate B.length []).getD _ _).map _
   rw [e]
   rfl
  ·have e:∀ m:Nat,(List.replicate B.length ([]:List Int)).getD m []=[]:=fun m=>by
    rw [List.getD_eq_getElem?_getD,List.getElem?_replicate]
    split<;>rfl
   have hg:g∈(List.replicate B.length ([]:List Int)).getD r.toNat []:=hg
   rw [e] at hg
   cases hg
  ·show (((G.map fun g:Grp=>(⟨0,-1,0,g.tokens⟩:Gs)).getD _ _:Gs)).st=0
   simp [List.getD,hk]
  ·have:=ha k hk hp
   show ((0:Nat):Int)-1<(gd G (k:Nat)).came
   omega
 | k+1,ht=>by
  have ih:=VL (w:=w) (B:=B) ha k (by omega)
  have hg:∀ j:Nat,(Pl.run w B G k).gr (j:Nat)=gd G (j:Nat):=fun j=>by
   unfold Pl.gr gd
   rw [(PO w B G k).1]
  have h1:Emb G.length p (Pl.run w B G k) (Pl.run w B ((AC G.length p).map fun j:Nat=>gd G (j:Nat)) k):=by
   have h0:=ih.later (k:Int) fun j hj hp=>by
    have:=ha j hj hp
    show _<((Pl.run w B G k).gr (j:Nat)).came
    rw [hg]
    omega
   have e:∀ G:List Grp,((Pl.run w B G k).later ((k:Int)-1)).later (k:Int)=Pl.run w B G k:=fun G=>by
    show (Pl.run w B G k).later (k:Int)=_
    have:=(PO w B G k).2.2
    unfold Pl.later
    rw [← this]
   rw [e,e] at h0
   exact h0
  have h2:=h1.tick.later (((k+1:Nat):Int)-1) fun j hj hp=>by
   rw [(PS _).gr,hg]
   have:=ha j hj hp
   omega
  exact h2
theorem Xs {xs:List Int} {i c v:Int} (h0:0<=i) (h1:i<xs.length):gt (xs.set i.toNat v) c=if c.toNat=i.toNat then v else gt xs c:=by
 unfold gt
 exact BF (by omega)
structure Pl.Hk (hs:List Int) (t:Int) (S:Pl):Prop where
 d:∀ g:Int,0<=g->g<S.G.length->0<=gt S.homes g->(S.gu g).st=4
 k:∀ g:Int,0<=g->g<S.G.length->gt S.homes g=gt hs g∨gt hs g<0/\gt S.homes g=t
 n:S.now=t
section
variable {S T:Pl} {hs:List Int} {t:Int} {c:Nat} {g:Int}
theorem Pl.Hk.congr (h:S.Hk hs t) (sm:S.Sm T) (e1:T.homes=S.homes) (e2:T.guests=S.guests):T.Hk hs t:=by
 refine ⟨?_,?_,sm.n.trans h.n⟩
 ·unfold Pl.gu
  rw [sm.g,e1,e2];exact h.d
 ·rw [sm.g,e1];exact h.k
theorem Pl.Hk.set (h:S.Hk hs t) (g0:0<=g) (hg:g.toNat<S.guests.length) (ho:(S.gu g).st≠4) (x:Gs) (sm:S.Sm T) (e1:T.homes=S.homes) (e2:T.guests=S.guests.set g.toNat x) (hl:g<S.G.length):T.Hk hs t:=by
 refine ⟨fun k k0 k1 hk=>?_,?_,sm.n.trans h.n⟩
 ·rw [sm.g] at k1
  rw [e1] at hk
  have hd:=h.d k k0 k1 hk
  by_cases e:k=g
  ·subst e
   exact absurd hd ho
  ·show (T.guests.getD k.toNat Gs.d).st=4
   rw [e2,BF hg,if_neg (by omega)]
   exact hd
 ·rw [sm.g,e1];exact h.k
theorem Pl.Hk.setH (h:S.Hk hs t) (_:0<=t) (g0:0<=g) (hg:g.toNat<S.guests.length) (hh:g<S.homes.length) (ho:(S.gu g).st≠4) (x:Gs) (hx:x.st=4) (sm:S.Sm T) (e1:T.homes=S.homes.set g.toNat t) (e2:T.guests=S.guests.set g.toNat x) (hl:g<S.G.length):T.Hk hs t:=by
 refine ⟨fun k k0 k1 hk=>?_,fun k k0 k1=>?_,sm.n.trans h.n⟩
 ·rw [sm.g] at k1
  show (T.guests.getD k.toNat Gs.d).st=4
  rw [e2,BF hg]
  split
  ·exact hx
  ·rw [e1,Xs g0 hh,if_neg (by assumption)] at hk
   exact h.d k k0 k1 hk
 ·rw [sm.g] at k1
  rw [e1,Xs g0 hh]
  split
  ·obtain rfl:k=g:=by omega
   refine .inr ⟨?_,rfl⟩
   have h1:=h.d k k0 k1
   have h2:=h.k k k0 k1
   have h3:gt S.homes k<0:=by
    rcases Int.lt_or_le (gt S.homes k) 0 with h3 | h3
    ·exact h3
    ·exact absurd (h1 h3) ho
   omega
  ·exact h.k k k0 k1
theorem Pl.Hk.on (h:S.Hk hs t) (t0:0<=t) (ok:S.Ok c) (g0:0<=g) (g1:g<S.G.length) (ho:(S.gu g).st≠4):(S.on g).Hk hs t:=by
 have hg:g.toNat<S.guests.length:=by rw [ok.lg];omega
 have sm:=Pl.Sm.on S g
 rw [Pl.on_eq S hg] at sm ⊢
 by_cases e:((S.gr g).wants.length:Int)<=(S.gu g).want+1
 ·refine h.setH t0 g0 hg (by rw [ok.lh];exact g1) ho (S.onx g) (by unfold Pl.onx;exact if_pos e) sm ?_ rfl g1
  show (if _ then _ else _)=_
  rw [if_pos e,h.n]
 ·refine h.set g0 hg ho (S.onx g) sm ?_ rfl g1
  show (if _ then _ else _)=_
  rw [if_neg e]
theorem Pl.Hk.stand (h:S.Hk hs t) (ok:S.Ok c) (g0:0<=g) (g1:g<S.G.length) (ho:(S.gu g).st≠4):(S.stand g).Hk hs t:=
 h.set g0 (by rw [ok.lg];omega) ho { S.gu g with st:=2,since:=S.now } (Pl.Sm.stand S g) rfl rfl g1
theorem Pl.Hk.leave (h:S.Hk hs t) (t0:0<=t) (ok:S.Ok c) (g0:0<=g) (g1:g<S.G.length) (ho:(S.gu g).st≠4) (b:Bool):(S.leave g b).Hk hs t:=by
 have hg:g.toNat<S.guests.length:=by rw [ok.lg];omega
 have sm:=Pl.Sm.leave S g b
 cases b with
 | true=>
  exact h.set g0 hg ho _ sm rfl rfl g1
 | false=>
  have hu:(S.unq g false).Hk hs t:=h.congr (Pl.Sm.unq S g false) rfl rfl
  have ho':((S.unq g false).gu g).st≠4:=ho
  have e:S.leave g false=(S.unq g false).on g:=rfl
  rw [e] at sm ⊢
  have hg':g.toNat<(S.unq g false).guests.length:=hg
  have sm:=Pl.Sm.on (S.unq g false) g
  rw [Pl.on_eq _ hg'] at sm ⊢
  by_cases e:(((S.unq g false).gr g).wants.length:Int)<=((S.unq g false).gu g).want+1
  ·refine hu.setH t0 g0 hg' (by show g<(S.homes.length:Int);rw [ok.lh];exact g1) ho' ((S.unq g false).onx g) (by unfold Pl.onx;exact if_pos e) sm ?_ rfl g1
   show (if _ then _ else _)=_
   rw [if_pos e,hu.n]
  ·refine hu.set g0 hg' ho' ((S.unq g false).onx g) sm ?_ rfl g1
   show (if _ then _ else _)=_
   rw [if_neg e]
theorem Pl.Hk.fold {f:Pl->Int->Pl} {d:Nat} (h:S.Hk hs t) (ok:S.Ok c):∀ n:Nat,(∀ (T:Pl) (c':Nat),T.Ok c'->S.Sm T->∀ k:Nat,k<n->(f T k).Ok (c'+d)/\T.Sm (f T k))->(∀ (T:Pl) (c':Nat),T.Ok c'->S.Sm T->T.Hk hs t->∀ k:Nat,k<n->(f T k).Hk hs t)->((Bn n).foldl f S).Hk hs t
 | 0,_,_=>h
 | n+1,h1,h2=>by
  obtain ⟨a,b⟩:=Nl ok n fun T c' t1 t2 k hk=>h1 T c' t1 t2 k (by omega)
  rw [OJ]
  exact h2 _ _ a b (h.fold ok n (fun T c' t1 t2 k hk=>h1 T c' t1 t2 k (by omega)) fun T c' t1 t2 t3 k hk=>h2 T c' t1 t2 t3 k (by omega)) n (by omega)
theorem Pl.Hk.fill {r:Int} (t0:0<=t) (q:List Int):∀ (left:Int) (T:Pl) (c:Nat),Pr T r q c->T.Hk hs t->(BU r q left T).1.Hk hs t:=by
 induction q with
 | nil=>exact fun left T c _ h=>h
 | cons g q ih=>
  intro left T c fo h
  obtain ⟨g0,g1,gs,gw⟩:=fo.el g (List.mem_cons_self ..)
  rw [Ji]
  split
  ·exact ih left _ (c+1) (fo.leave fun e=>by cases e) (h.leave t0 fo.ok g0 g1 (by omega) false)
  ·rename_i hbad
   split
   ·exact ih (left-(T.gr g).size) _ (c+1) (fo.leave fun _=>by simpa using hbad) (h.leave t0 fo.ok g0 g1 (by omega) true)
   ·split
    ·exact ih left T (c+1) fo.skip h
    ·exact h
theorem Pl.Hk.begin (h:S.Hk hs t) (t0:0<=t) (ok:S.Ok c) {r:Int} (r0:0<=r) (r1:r<S.B.length):(S.begin r).Hk hs t:=by
 unfold Pl.begin
 split
 ·exact h
 have h2:=Pl.Hk.fill (r:=r) t0 (S.qu r) (S.bt r).seats S c (Pr.of ok r0 r1) h
 split
 ·exact h2.congr (Pl.Sm.setB _ _ _) rfl rfl
 ·exact h2
theorem Pl.Hk.begins (h:S.Hk hs t) (t0:0<=t) (ok:S.Ok c):∀ n:Nat,n<=S.B.length->(S.begins n).Hk hs t
 | 0,_=>h
 | n+1,hn=>by
  obtain ⟨h1,h2⟩:=ok.beginF n (by omega)
  rw [Pl.begins_succ]
  exact (h.begins t0 ok n (by omega)).begin t0 h1 (by omega) (by rw [h2.b];omega)
theorem Pl.Hk.tick (h:S.Hk hs t) (t0:0<=t) (ok:S.Ok c):S.tick.Hk hs t:=by
 have h1:(S.endK S.B.length).Hk hs t:=h.congr (Pl.Sm.endK S _) rfl rfl
 obtain ⟨ok5,sm5⟩:S.end_.Ok c/\S.Sm S.end_:=ok.endF (Nat.le_refl _)
 have h2:S.end_.Hk hs t:=h1.fold (f:=Pl.off1) (d:=0) (ok.endK S.B.length) S.G.length (fun T c' t1 t2 k hk=>t1.off2 (by omega) (by rw [t2.g];show (k:Int)<(S.G.length:Int);omega)) fun T c' t1 t2 t3 k hk=>by
  unfold Pl.off1
  split
  ·rename_i e
   unfold Pl.off at e
   simp only [Bool.and_eq_true,decide_eq_true_eq] at e
   exact t3.on t0 t1 (by omega) (by rw [t2.g];show (k:Int)<(S.G.length:Int);omega) (by omega)
  ·exact t3
 obtain ⟨ok8,sm8⟩:S.end_.come.Ok c/\S.end_.Sm S.end_.come:=ok5.comeF (Nat.le_refl _)
 have h3:S.end_.come.Hk hs t:=h2.fold (f:=Pl.come1) (d:=0) ok5 S.end_.G.length (fun T c' t1 t2 k hk=>⟨t1.come1 (by omega) (by rw [t2.g];omega),Pl.Sm.come1 T k⟩) fun T c' t1 t2 t3 k hk=>by
  unfold Pl.come1
  split
  ·rename_i e
   unfold Pl.comeA at e
   simp only [Bool.and_eq_true,decide_eq_true_eq] at e
   exact t3.on t0 t1 (by omega) (by rw [t2.g];omega) (by omega)
  ·split
   ·rename_i e
    unfold Pl.comeB at e
    simp only [Bool.and_eq_true,decide_eq_true_eq] at e
    exact t3.stand t1 (by omega) (by rw [t2.g];omega) (by omega)
   ·exact t3
 have h4:S.rest.Hk hs t:=h3.fold (f:=Pl.quit1) (d:=1) ok8 S.end_.come.G.length (fun T c' t1 t2 k hk=>t1.quit2 (by omega) (by rw [t2.g];omega)) fun T c' t1 t2 t3 k hk=>by
  unfold Pl.quit1
  split
  ·rename_i e
   unfold Pl.quits at e
   simp only [Bool.and_eq_true,decide_eq_true_eq] at e
   exact t3.leave t0 t1 (by omega) (by rw [t2.g];omega) (by omega) false
  ·exact t3
 obtain ⟨okr,smr⟩:=ok.rest
 have h5:=h4.begins t0 okr S.B.length (by rw [smr.b];exact Nat.le_refl _)
 exact h5.congr (Pl.Sm.lineK _ _) rfl rfl
end
section
variable {w:Int} {B:List BthG} {G:List Grp}
theorem Yx (hv:Val w B G):∀ k:Nat,k<=4001->(∀ g:Int,0<=g->g<G.length->0<=gt (Pl.run w B G k).homes g->((Pl.run w B G k).gu g).st=4)/\∀ j:Nat,j+1=k->∀ g:Int,0<=g->g<G.length->gt (Pl.run w B G k).homes g=gt (Pl.run w B G j).homes g∨gt (Pl.run w B G j).homes g<0/\gt (Pl.run w B G k).homes g=j
 | 0,_=>⟨fun g g0 g1 h=>by
   have h:0<=gt (List.replicate G.length (-1)) g:=h
   have:g.toNat<G.length:=by omega
   unfold gt at h
   simp [List.getD,this] at h,fun j hj=>by omega⟩
 | k+1,hk=>by
  obtain ⟨ok,e1,e2,e3⟩:=Vp hv k (by omega)
  have ih:=Yx hv k (by omega)
  have h0:(Pl.run w B G k).Hk (Pl.run w B G k).homes k:=⟨by rw [e3];exact ih.1,fun g _ _=>.inl rfl,e1⟩
  have h:=h0.tick (by omega) ok
  have eG:(Pl.run w B G k).tick.G=G:=(PS _).g.trans e3
  refine ⟨fun g g0 g1=>h.d g g0 (by rw [eG];exact g1),fun j hj g g0 g1=>?_⟩
  obtain rfl:j=k:=by omega
  exact h.k g g0 (by rw [eG];exact g1)
theorem Qw (hv:Val w B G) {g:Int} (g0:0<=g) (g1:g<G.length) (j:Nat):∀ n:Nat,j+n<=4001->(0<=gt (Pl.run w B G j).homes g->gt (Pl.run w B G (j+n)).homes g=gt (Pl.run w B G j).homes g)/\(gt (Pl.run w B G j).homes g<0->gt (Pl.run w B G (j+n)).homes g<0∨(j:Int)<=gt (Pl.run w B G (j+n)).homes g)
 | 0,_=>⟨fun _=>rfl,fun h=>.inl h⟩
 | n+1,hn=>by
  obtain ⟨h1,h2⟩:=Qw hv g0 g1 j n (by omega)
  have h3:=(Yx hv (j+n+1) (by omega)).2 (j+n) rfl g g0 g1
  refine ⟨fun h=>?_,fun h=>?_⟩
  ·have:=h1 h
   show gt (Pl.run w B G (j+n+1)).homes g=_
   omega
  ·have:=h2 h
   show gt (Pl.run w B G (j+n+1)).homes g<0∨(j:Int)<=gt (Pl.run w B G (j+n+1)).homes g
   omega
theorem YH {p:Nat->Bool} {t:Int} (hv:Val w B G) (hv':Val w B ((AC G.length p).map fun j:Nat=>gd G (j:Nat))) (ht:0<=t/\t<=4001) (ha:∀ k:Nat,k<G.length->p k=false->t<=(gd G (k:Nat)).came) {i:Nat} (hi:i<(AC G.length p).length)
  (h0:0<=gt (Pl.run w B ((AC G.length p).map fun j:Nat=>gd G (j:Nat)) 4001).homes (i:Nat)) (h1:gt (Pl.run w B ((AC G.length p).map fun j:Nat=>gd G (j:Nat)) 4001).homes (i:Nat)<t):
  gt (Pl.run w B G 4001).homes ((AC G.length p)[i]:Nat)=gt (Pl.run w B ((AC G.length p).map fun j:Nat=>gd G (j:Nat)) 4001).homes (i:Nat):=by
 obtain ⟨T,rfl⟩:∃ T:Nat,t=T:=⟨t.toNat,by omega⟩
 obtain ⟨n,hn⟩:∃ n,4001=T+n:=⟨4001-T,by omega⟩
 have he:=(VL (w:=w) (B:=B) ha T (Int.le_refl _)).ho
 have he:(Pl.run w B ((AC G.length p).map fun j:Nat=>gd G (j:Nat)) T).homes=(AC G.length p).map fun j:Nat=>gt (Pl.run w B G T).homes (j:Nat):=he
 have hj:=(I1 _ (List.getElem_mem hi)).1
 rw [hn] at h0 h1 ⊢
 obtain ⟨a1,a2⟩:=Qw hv' (g:=(i:Nat)) (by omega) (by rw [List.length_map];omega) T n (by omega)
 obtain ⟨b1,b2⟩:=Qw hv (g:=((AC G.length p)[i]:Nat)) (by omega) (by omega) T n (by omega)
 have e1:gt (Pl.run w B ((AC G.length p).map fun j:Nat=>gd G (j:Nat)) T).homes (i:Nat)=gt (Pl.run w B G T).homes ((AC G.length p)[i]:Nat):=by
  rw [he]
  have hi':i<((AC G.length p).map fun j:Nat=>gt (Pl.run w B G T).homes (j:Nat)).length:=by rw [List.length_map];exact hi
  rw [B3 hi',List.getElem_map]
 generalize gt (Pl.run w B ((AC G.length p).map fun j:Nat=>gd G (j:Nat)) T).homes (i:Nat)=x at *
 generalize gt (Pl.run w B ((AC G.length p).map fun j:Nat=>gd G (j:Nat)) (T+n)).homes (i:Nat)=y at *
 have hx:0<=x:=by
  rcases Int.lt_or_le x 0 with h | h
  ·have:=a2 h
   omega
  ·exact h
 rw [a1 hx,b1 (by omega),e1]
end
def tz (f:Nat->Int):Nat->Int
 | 0=>0
 | k+1=>tz f k+f k
theorem X1 {f f':Nat->Int}:∀ n,(∀ j,j<n->f j<=f' j)->tz f n<=tz f' n
 | 0,_=>Int.le_refl _
 | n+1,h=>by
  have h1:=X1 n fun j hj=>h j (by omega)
  have h2:=h n (by omega)
  show tz f n+f n<=tz f' n+f' n
  omega
theorem Yy {f f':Nat->Int} {P:Nat} {s:Int} (hs:f P<=s+f' P):∀ n,(∀ j,j<n->j≠P->f j<=f' j)->0<=s->tz f n<=s+tz f' n
 | 0,_,h0=>by show (0:Int)<=s+0;omega
 | n+1,h,h0=>by
  show tz f n+f n<=s+(tz f' n+f' n)
  by_cases e:n=P
  ·subst e
   have:=X1 n fun j hj=>h j (by omega) (by omega)
   omega
  ·have h1:=Yy hs n (fun j hj=>h j (by omega)) h0
   have h2:=h n (by omega) e
   omega
theorem Vv {f f':Nat->Int} {P:Nat} {s:Int} (hs:f P+s<=f' P):∀ n,(∀ j,j<n->f j<=f' j)->P<n->tz f n+s<=tz f' n
 | n+1,h,h0=>by
  show tz f n+f n+s<=tz f' n+f' n
  by_cases e:n=P
  ·subst e
   have:=X1 n fun j hj=>h j (by omega)
   omega
  ·have h1:=Vv hs n (fun j hj=>h j (by omega)) (by omega)
   have h2:=h n (by omega)
   omega
def fp (F:List Bool) (j:Nat):Bool:=F.getD j false
theorem Om {F:List Bool}:AX F=AC F.length (fp F):=rfl
theorem QU {n:Nat} {p:Nat->Bool} {m:Nat} (hm:m<n) (hp:p m=true):∃ h:(AC m p).length<(AC n p).length,(AC n p)[(AC m p).length]=m:=by
 obtain ⟨h1,h2⟩:=VE hm hp
 refine ⟨h1,?_⟩
 simpa [List.getD,h1] using h2
def FR (F:List Bool) (hs:List Int) (j:Nat):Int:=gt hs ((AC j (fp F)).length:Nat)
section
variable {G:List Grp} {F:List Bool} {hs:List Int} {t:Int}
theorem TK {j:Nat} (hl:F.length=G.length) (hj:j<G.length) (hp:fp F j=true):gd (B0 G F) ((AC j (fp F)).length:Nat)=gd G (j:Nat):=by
 obtain ⟨h1,h2⟩:=QU (n:=F.length) (by omega) hp
 rw [PQ (by rw [Om];exact h1)]
 simp only [Om,h2]
theorem Xe (hl:F.length=G.length):∀ k,k<=G.length->gst (B0 G F) hs t (AC k (fp F)).length=tz (fun j=>if fp F j=true then if (gd G (j:Nat)).came<=t/\(FR F hs j<0∨t<FR F hs j) then (gd G (j:Nat)).size else 0 else 0) k
 | 0,_=>rfl
 | k+1,hk=>by
  have ih:=Xe hl k (by omega)
  show _=tz _ k+(if fp F k=true then if (gd G (k:Nat)).came<=t/\(FR F hs k<0∨t<FR F hs k) then (gd G (k:Nat)).size else 0 else 0)
  rw [← ih,Iu]
  by_cases e:fp F k=true
  ·rw [if_pos e,if_pos e,List.length_append]
   show gst (B0 G F) hs t ((AC k (fp F)).length+1)=_
   unfold FR
   rw [gst,TK hl (by omega) e]
   split<;>omega
  ·rw [if_neg e,if_neg e,List.append_nil,Int.add_zero]
theorem Ui (hl:F.length=G.length):∀ k,k<=G.length->stN (B0 G F) hs t (AC k (fp F)).length=tz (fun j=>if fp F j=true then if FR F hs j<0∨t<=FR F hs j then (gd G (j:Nat)).size else 0 else 0) k
 | 0,_=>rfl
 | k+1,hk=>by
  have ih:=Ui hl k (by omega)
  show _=tz _ k+(if fp F k=true then if FR F hs k<0∨t<=FR F hs k then (gd G (k:Nat)).size else 0 else 0)
  rw [← ih,Iu]
  by_cases e:fp F k=true
  ·rw [if_pos e,if_pos e,List.length_append]
   show stN (B0 G F) hs t ((AC k (fp F)).length+1)=_
   unfold FR
   rw [stN,TK hl (by omega) e]
  ·rw [if_neg e,if_neg e,List.append_nil,Int.add_zero]
theorem Od (hl:F.length=G.length):(B0 G F).length=(AC G.length (fp F)).length:=by rw [Cd,Om,hl]
end
section
variable {g:Gal} {G:List Grp} {m:Int}
theorem YP {k:Nat} (hk:k<G.length) {x:Int}:x∈(Eh G).take (k+1)↔x∈(Eh G).take k∨x=gt (Eh G) k:=RN (by rw [(D0 (G:=G)).2.1];exact hk)
theorem Li {k:Nat} {j:Nat} (hj:(j:Int)∈(Eh G).take k):∀ d,k+d<=G.length->(g.admF G m (k+d)).getD j false=(g.admF G m k).getD j false/\(j:Int)∈(Eh G).take (k+d)
 | 0,_=>⟨rfl,hj⟩
 | d+1,hd=>by
  obtain ⟨h1,h2⟩:=Li hj d (by omega)
  obtain ⟨i,i1,i2,i3⟩:=Lm (G:=G) (k:=k+d) (by omega)
  refine ⟨?_,(YP (k:=k+d) (by omega)).2 (.inl h2)⟩
  show (g.admF G m (k+d+1)).getD j false=_
  rw [Ig (by omega),i2]
  unfold Gal.adm1
  rw [Ng,if_neg,h1]
  rintro ⟨e,_⟩
  have:i=j:=by omega
  subst this
  exact i3 h2
theorem QB {j:Nat} (hj:j<G.length):∃ k,k<G.length/\gt (Eh G) k=j:=by
 obtain ⟨h1,h2,h3⟩:=D0 (G:=G)
 obtain ⟨k,hk,e⟩:=List.getElem_of_mem ((h3 j).2 ⟨by omega,by omega⟩)
 exact ⟨k,by omega,by rw [B3 hk,e]⟩
theorem Vi {a b:Nat} (hab:a<b) (hb:b<G.length):(gd G (gt (Eh G) a)).came<=(gd G (gt (Eh G) b)).came:=by
 obtain ⟨h1,h2,h3⟩:=D0 (G:=G)
 have:=List.pairwise_iff_getElem.1 h1 a b (by omega) (by omega) hab
 rw [B3 (by omega),B3 (by omega)]
 rcases this with h | h
 ·exact Int.le_of_lt h
 ·exact Int.le_of_eq h.1
theorem XX {k:Nat} {a:Nat} (ha:a<k) (hk:k<=G.length):gt (Eh G) a∈(Eh G).take k:=by
 have hl:=(D0 (G:=G)).2.1
 have h:a<((Eh G).take k).length:=by rw [List.length_take];omega
 have:=List.getElem_mem h
 rw [List.getElem_take] at this
 rw [B3 (by omega)]
 exact this
theorem Vc {k j:Nat} (hk:k<G.length) (e:gt (Eh G) k=j):(g.admF G m G.length).getD j false=decide (g.admN G (g.admF G m k) j<=m):=by
 obtain ⟨i,i1,i2,i3⟩:=Lm (G:=G) hk
 obtain rfl:i=j:=by omega
 have h:=(Li (g:=g) (m:=m) (k:=k+1) (j:=i) ((YP hk).2 (.inr e.symm)) (G.length-(k+1)) (by omega)).1
 rw [show k+1+(G.length-(k+1))=G.length by omega] at h
 rw [h,Ig hk,e]
 unfold Gal.adm1
 rw [Ng,if_pos ⟨by omega,by rw [Fp k (by omega)];exact i1⟩]
 rfl
theorem VS {Q:Nat->Prop}:∀ n,(∃ k,k<n/\Q k)->∃ k,k<n/\Q k/\∀ k',k<k'->k'<n->¬ Q k'
 | 0,h=>by obtain ⟨k,h,_⟩:=h;omega
 | n+1,h=>by
  by_cases e:Q n
  ·exact ⟨n,by omega,e,fun k' h1 h2=>by omega⟩
  ·obtain ⟨k,h1,h2⟩:=h
   have hk:k<n:=by
    rcases Nat.lt_or_ge k n with h3 | h3
    ·exact h3
    ·obtain rfl:k=n:=by omega
     exact absurd h2 e
   obtain ⟨k,a,b,c⟩:=VS n ⟨k,hk,h2⟩
   refine ⟨k,by omega,b,fun k' h3 h4=>?_⟩
   rcases Nat.lt_or_ge k' n with h5 | h5
   ·exact c k' h3 h5
   ·obtain rfl:k'=n:=by omega
    exact e
theorem WK {α:Type} {d:α} {L:List α} {p:α->Bool}:(AC L.length fun i=>p (L.getD i d)).map (fun i=>L.getD i d)=L.filter p:=by
 have h:(List.range L.length).map (fun i=>L.getD i d)=L:=by
  refine List.ext_getElem (by simp) fun i h1 h2=>?_
  rw [List.getElem_map,List.getElem_range]
  simp [List.getD,h2]
 unfold AC
 conv=>rhs;rw [← h,List.filter_map]
 rfl
theorem YI {S:List Grp} {i:Nat} (h:i<S.length):gd (g.red S) (i:Nat)=XL g.open (gd S (i:Nat)):=by
 have h':i<(g.red S).length:=by rw [Gal.red_len];exact h
 rw [Hv h',Hv h,Gal.red_get h' h]
theorem RB {S:List Grp} (hq:Fs g.w g.B S=0):g.homes S=(Pl.run g.w g.B (g.red S) 4001).homes:=((Ye (Cu (Gal.red_chk hq))).1).symm
theorem Yf {F F':List Bool} {t:Int} (hl:F.length=G.length) (hl':F'.length=G.length) (hq:Fs g.w g.B G=0) (hs:∀ j,fp F' j=true->fp F j=true) (ht:0<=t/\t<=4001) (ha:∀ j,j<G.length->fp F j=true->fp F' j=false->t<=(gd G (j:Nat)).came) {j:Nat} (hj:j<G.length) (hp:fp F' j=true)
  (h0:0<=FR F' (g.homes (B0 G F')) j) (h1:FR F' (g.homes (B0 G F')) j<t):FR F (g.homes (B0 G F)) j=FR F' (g.homes (B0 G F')) j:=by
 have q1:=NP (g:=g) hl hq
 have q2:=NP (g:=g) hl' hq
 have hpF:=hs j hp
 -- who is in of those who are in
 have eI:(AC (AX F).length fun i=>fp F' ((AX F).getD i 0)).map (fun i=>(AX F).getD i 0)=AX F':=by
  rw [WK (d:=0) (L:=AX F) (p:=fp F')]
  unfold AX
  rw [List.filter_filter,hl,hl']
  refine List.filter_congr fun i hi=>?_
  show (fp F' i&&fp F i)=fp F' i
  cases h:fp F' i with
  | false=>rfl
  | true=>rw [hs i h];rfl
 have eL:(g.red (B0 G F)).length=(AX F).length:=by rw [Gal.red_len,Cd]
 generalize hpp:(fun i=>fp F' ((AX F).getD i 0))=pp at eI
 have eS:(AC (g.red (B0 G F)).length pp).map (fun i:Nat=>gd (g.red (B0 G F)) (i:Nat))=g.red (B0 G F'):=by
  have e2:g.red (B0 G F')=(AX F').map fun j:Nat=>XL g.open (gd G (j:Nat)):=by
   unfold B0 Gal.red
   rw [List.map_map]
   rfl
  rw [e2,← eI,List.map_map,eL]
  refine List.map_congr_left fun i hi=>?_
  have hi':=(I1 i hi).1
  rw [YI (by rw [Cd];exact hi'),PQ hi']
  simp [List.getD,hi']
 have v1:=Cu (Gal.red_chk q1)
 have v2:=Cu (Gal.red_chk q2)
 -- the place of one
 obtain ⟨d1,d2⟩:=QU (n:=F'.length) (by omega) hp
 obtain ⟨c1,c2⟩:=QU (n:=F.length) (by omega) hpF
 have hi:(AC j (fp F')).length<(AC (AX F).length pp).length:=by
  have:=congrArg List.length eI
  rw [List.length_map] at this
  rw [this]
  exact d1
 have ei:(AC (AX F).length pp)[(AC j (fp F')).length]=(AC j (fp F)).length:=by
  have hb:=(I1 _ (List.getElem_mem hi)).1
  have e1:(AX F).getD ((AC (AX F).length pp)[(AC j (fp F')).length]) 0=j:=by
   have h2:(AC j (fp F')).length<((AC (AX F).length pp).map fun i=>(AX F).getD i 0).length:=by rw [List.length_map];exact hi
   have h3:((AC (AX F).length pp).map fun i=>(AX F).getD i 0)[(AC j (fp F')).length]=(AX F')[(AC j (fp F')).length]'d1:=List.getElem_of_eq eI h2
   rw [List.getElem_map] at h3
   rw [h3]
   exact d2
  have e2:(AC F.length (fp F))[(AC (AX F).length pp)[(AC j (fp F')).length]]'hb=j:=by
   rw [List.getD_eq_getElem?_getD,List.getElem?_eq_getElem hb,Option.getD_some] at e1
   exact e1
  exact P7 hb c1 (e2.trans c2.symm)
 have h:=YH (w:=g.w) (B:=g.B) (G:=g.red (B0 G F)) (p:=pp) (t:=t) v1 (by rw [eS];exact v2) ht (fun k hk hkp=>by
  have hk':k<(AX F).length:=by omega
  rw [YI (by rw [Cd];exact hk'),PQ hk']
  have hm:=CW.1 (List.getElem_mem hk')
  refine ha _ (by omega) hm.2 ?_
  rw [← hpp] at hkp
  simpa [List.getD,hk'] using hkp) (i:=(AC j (fp F')).length) (by rw [eL];exact hi)
 rw [eS,← RB q2] at h
 have h:=h h0 h1
 simp only [eL,ei] at h
 rw [← RB q1] at h
 exact h
theorem NR (hq:Fs g.w g.B G=0) {j:Nat} (hj:j<G.length):0<=(gd G (j:Nat)).size/\0<=(gd G (j:Nat)).came/\(gd G (j:Nat)).came<=2000:=by
 have h:=(Cu hq).gr (g:=(j:Nat)) (by omega) (by omega)
 omega
theorem WJ (hq:Fs g.w g.B G=0) (hm:0<=m):mst (B0 G (g.admF G m G.length)) (g.homes (B0 G (g.admF G m G.length))) (B0 G (g.admF G m G.length)).length<=m:=by
 have hl:=Fp (g:=g) (G:=G) (m:=m) G.length (Nat.le_refl _)
 generalize hF:g.admF G m G.length=F at *
 refine XC hm _ fun i hi=>?_
 have hi':i<(AX F).length:=by rwa [Cd] at hi
 rw [PQ hi']
 obtain ⟨c1,c2⟩:=CW.1 (List.getElem_mem hi')
 generalize (AX F)[i]=x at *
 have hx:x<G.length:=by omega
 obtain ⟨kx,kx1,kx2⟩:=QB hx
 obtain ⟨k,k1,⟨k2,k3⟩,k4⟩:=VS (Q:=fun k=>(gd G (gt (Eh G) k)).came=(gd G (x:Nat)).came/\fp F (gt (Eh G) k).toNat=true) G.length ⟨kx,kx1,by rw [kx2],by rw [kx2,Int.toNat_natCast];exact c2⟩
 obtain ⟨P,p1,p2,p3⟩:=Lm (G:=G) k1
 rw [p2,Int.toNat_natCast] at k3
 rw [p2] at k2
 have hP:=Vc (g:=g) (m:=m) k1 p2
 rw [hF] at hP
 have hP:g.admN G (g.admF G m k) P<=m:=by
  have h:F.getD P false=true:=k3
  rw [h] at hP
  exact of_decide_eq_true hP.symm
 have hl':=Fp (g:=g) (G:=G) (m:=m) k (by omega)
 have hsub:∀ j,fp (g.admF G m k) j=true->fp F j=true:=fun j hj=>by
  have hin:(j:Int)∈(Eh G).take k:=by
   refine Classical.byContradiction fun h=>?_
   have:=IA (g:=g) (m:=m) k (by omega) j h
   unfold fp at hj
   rw [this] at hj
   cases hj
  have h:=(Li (g:=g) (m:=m) hin (G.length-k) (by omega)).1
  rw [show k+(G.length-k)=G.length by omega,hF] at h
  unfold fp at hj ⊢
  rw [h,hj]
 -- who is in,but was not yet
 have hnew:∀ j,j<G.length->fp F j=true->fp (g.admF G m k) j=false->∃ q,k<=q/\q<G.length/\gt (Eh G) q=j:=fun j hj h1 h2=>by
  obtain ⟨q,q1,q2⟩:=QB hj
  refine ⟨q,?_,q1,q2⟩
  rcases Nat.lt_or_ge q k with h3 | h3
  ·have hin:=XX h3 (show k<=G.length by omega)
   rw [q2] at hin
   have h:=(Li (g:=g) (m:=m) hin (G.length-k) (by omega)).1
   rw [show k+(G.length-k)=G.length by omega,hF] at h
   unfold fp at h1 h2
   rw [h,h2] at h1
   cases h1
  ·exact h3
 have hPo:fp (g.admF G m k) P=false:=IA k (by omega) P p3
 unfold Gal.admN at hP
 rw [Od hl',Ui hl' G.length (Nat.le_refl _)] at hP
 rw [Od hl,Xe hl G.length (Nat.le_refl _)]
 refine Int.le_trans (Yy (P:=P) (s:=(gd G (P:Nat)).size) ?_ G.length (fun j hj hne=>?_) (NR hq p1).1) hP
 ·show (if fp F P=true then _ else _)<=_+(if fp (g.admF G m k) P=true then _ else _)
  have:=(NR hq p1).1
  rw [if_neg (show ¬ fp (g.admF G m k) P=true by rw [hPo];decide)]
  split
  ·split<;>omega
  ·omega
 ·show (if fp F j=true then _ else _)<=(if fp (g.admF G m k) j=true then _ else _)
  have hz:=(NR hq hj).1
  by_cases e:fp (g.admF G m k) j=true
  ·rw [if_pos e,if_pos (hsub j e)]
   have hh:=Yf (g:=g) (t:=(gd G (P:Nat)).came) hl hl' hq hsub (by have:=NR hq p1;omega) (fun j' hj' h1 h2=>by
    obtain ⟨q,q1,q2,q3⟩:=hnew j' hj' h1 h2
    rcases Nat.lt_or_ge k q with h3 | h3
    ·have:=Vi (G:=G) h3 q2
     rw [p2,q3] at this
     exact this
    ·obtain rfl:q=k:=by omega
     rw [← q3,p2]
     exact Int.le_refl _) hj e
   rw [← k2]
   generalize FR F (g.homes (B0 G F)) j=a at *
   generalize FR (g.admF G m k) (g.homes (B0 G (g.admF G m k))) j=b at *
   by_cases e2:b<0∨(gd G (P:Nat)).came<=b
   ·rw [if_pos e2]
    split<;>omega
   ·have:=hh (by omega) (by omega)
    rw [if_neg e2,if_neg (by omega)]
    exact Int.le_refl _
  ·rw [if_neg e]
   have e:fp (g.admF G m k) j=false:=by simpa using e
   by_cases e1:fp F j=true
   ·rw [if_pos e1,if_neg]
    ·exact Int.le_refl _
    ·rintro ⟨h1,_⟩
     obtain ⟨q,q1,q2,q3⟩:=hnew j hj e1 e
     rcases Nat.lt_or_ge k q with h3 | h3
     ·have:=Vi (G:=G) h3 q2
      rw [p2,q3] at this
      refine k4 q h3 q2 ⟨?_,?_⟩
      ·rw [q3]
       omega
      ·rw [q3,Int.toNat_natCast]
       exact e1
     ·obtain rfl:q=k:=by omega
      rw [p2] at q3
      exact hne (by omega)
   ·rw [if_neg e1]
    exact Int.le_refl _
theorem W1 (hq:Fs g.w g.B G=0) (hs:tz (fun j:Nat=>(gd G (j:Nat)).size) G.length<=m):(AX (g.admF G m G.length)).length=G.length:=by
 have hl:=Fp (g:=g) (G:=G) (m:=m) G.length (Nat.le_refl _)
 have h:∀ j,j<G.length->(g.admF G m G.length).getD j false=true:=fun j hj=>by
  obtain ⟨k,k1,k2⟩:=QB hj
  rw [Vc k1 k2]
  refine decide_eq_true ?_
  have hl':=Fp (g:=g) (G:=G) (m:=m) k (by omega)
  obtain ⟨P,p1,p2,p3⟩:=Lm (G:=G) k1
  obtain rfl:P=j:=by omega
  have hPo:fp (g.admF G m k) P=false:=IA k (by omega) P p3
  unfold Gal.admN
  rw [Od hl',Ui hl' G.length (Nat.le_refl _)]
  refine Int.le_trans ?_ hs
  have ht:=Vv (f:=fun j:Nat=>if fp (g.admF G m k) j=true then if FR (g.admF G m k) (g.homes (B0 G (g.admF G m k))) j<0∨(gd G (P:Nat)).came<=FR (g.admF G m k) (g.homes (B0 G (g.admF G m k))) j then (gd G (j:Nat)).size else 0 else 0) (f':=fun j:Nat=>(gd G (j:Nat)).size) (P:=P) (s:=(gd G (P:Nat)).size) (by
   show (if fp (g.admF G m k) P=true then _ else _)+_<=_
   rw [hPo,if_neg (by decide)]
   omega) G.length (fun i hi=>by
   have:=(NR hq hi).1
   show (if _ then _ else _)<=_
   split
   ·split<;>omega
   ·omega) hj
  omega
 have:AX (g.admF G m G.length)=List.range G.length:=by
  unfold AX
  rw [hl]
  refine List.filter_eq_self.2 fun i hi=>?_
  exact h i (List.mem_range.1 hi)
 rw [this,List.length_range]
end
end Go.Proofs.YtoelhdjloaknbaaGreat
