/- What this claim rests on. -/
import Derived.Test.YtoelhdjloaknbaaGreatUB11
namespace Go.Proofs.YtoelhdjloaknbaaGreat
open Go.RowKit Go.Proofs.Tryz
abbrev Rel:=Hp->Hp->Prop
def Hp.dj (σ h:Hp):Prop:=∀ b,σ b=none∨h b=none
def Hp.un (σ h:Hp):Hp:=fun b=>match h b with
 | some x=>some x
 | none=>σ b
theorem G0 {σ h:Hp} {b:Nat} {x:Obj×Bool} (e:h b=some x):Hp.un σ h b=some x:=by unfold Hp.un;rw [e]
theorem De {σ h:Hp} {b:Nat} (e:h b=none):Hp.un σ h b=σ b:=by unfold Hp.un;rw [e]
theorem Lp {σ h:Hp} {b:Nat} (e:Hp.un σ h b=none):σ b=none/\h b=none:=by
 cases eh:h b with
 | some x=>rw [G0 eh] at e;cases e
 | none=>rw [De eh] at e;exact ⟨e,rfl⟩
theorem AaZ {σ h:Hp} (hd:Hp.dj σ h):Hp.Sub σ (Hp.un σ h):=fun k x e=>by
 rcases hd k with h1 | h1
 ·rw [e] at h1;cases h1
 ·rw [De h1];exact e
theorem Zb {σ h k:Hp} (hd:Hp.dj h k):Hp.un (Hp.un σ h) k=Hp.un (Hp.un σ k) h:=by
 funext b
 rcases hd b with e | e
 ·cases ek:k b with
  | some x=>rw [G0 ek,De e,G0 ek]
  | none=>rw [De ek,De e,De e,De ek]
 ·cases eh:h b with
  | some x=>rw [De e,G0 eh,G0 eh]
  | none=>rw [De e,De eh,De eh,De e]
def Ay (R:Rel):Prop:=∀ σ σ',R σ σ'->∃ h,Hp.dj σ h/\σ'=Hp.un σ h/\∀ τ,Hp.dj τ h->R τ (Hp.un τ h)
theorem Ay.sub {R:Rel} (hR:Ay R) {σ σ':Hp} (h:R σ σ'):Hp.Sub σ σ':=by
 obtain ⟨k,hd,rfl,_⟩:=hR _ _ h
 exact AaZ hd
theorem Ay.swap {R S:Rel} (hR:Ay R) (hS:Ay S) {σ s1 σ2:Hp} (h:R σ s1) (h':S s1 σ2):∃ s1',S σ s1'/\R s1' σ2:=by
 obtain ⟨k,hd,rfl,hk⟩:=hR _ _ h
 obtain ⟨m,hd2,rfl,hm⟩:=hS _ _ h'
 have d1:Hp.dj σ m:=fun b=>by
  rcases hd2 b with e | e
  ·exact .inl (Lp e).1
  ·exact .inr e
 have d2:Hp.dj k m:=fun b=>by
  rcases hd2 b with e | e
  ·exact .inl (Lp e).2
  ·exact .inr e
 have d3:Hp.dj (Hp.un σ m) k:=fun b=>by
  rcases hd b with e | e
  ·cases em:m b with
   | none=>rw [De em];exact .inl e
   | some x=>
    rcases d2 b with e2 | e2
    ·exact .inr e2
    ·rw [em] at e2;cases e2
  ·exact .inr e
 refine ⟨_,hm _ d1,?_⟩
 rw [Zb d2]
 exact hk _ d3
def Rel.seq (R S:Rel):Rel:=fun σ σ'=>∃ s1,R σ s1/\S s1 σ'
theorem Ay.seq {R S:Rel} (hR:Ay R) (hS:Ay S):Ay (R.seq S):=by
 rintro σ σ' ⟨s1,h,h'⟩
 obtain ⟨k,hd,rfl,hk⟩:=hR _ _ h
 obtain ⟨m,hd2,rfl,hm⟩:=hS _ _ h'
 have e:∀ τ:Hp,Hp.un (Hp.un τ k) m=Hp.un τ (Hp.un k m):=fun τ=>by
  funext b
  cases em:m b with
  | some x=>rw [G0 em,G0 (G0 em)]
  | none=>
   rw [De em]
   cases ek:k b with
   | some x=>rw [G0 ek,G0 (show Hp.un k m b=some x by rw [De em,ek])]
   | none=>rw [De ek,De (show Hp.un k m b=none by rw [De em,ek])]
 refine ⟨Hp.un k m,fun b=>?_,e σ,fun τ ht=>?_⟩
 ·rcases hd b with e1 | e1
  ·exact .inl e1
  ·rcases hd2 b with e2 | e2
   ·exact .inl (Lp e2).1
   ·exact .inr (by rw [De e2,e1])
 ·refine ⟨Hp.un τ k,hk τ fun b=>(ht b).imp id fun e1=>(Lp e1).1,?_⟩
  rw [← e]
  refine hm _ fun b=>?_
  cases em:m b with
  | none=>exact .inr rfl
  | some x=>
   rcases ht b with e1 | e1
   ·rcases hd2 b with e2 | e2
    ·exact .inl (by rw [De (Lp e2).2];exact e1)
    ·rw [em] at e2;cases e2
   ·rw [G0 em] at e1;cases e1
theorem Ay.ex {α:Type} {R:α->Rel} (h:∀ a,Ay (R a)):Ay fun σ σ'=>∃ a,R a σ σ':=by
 rintro σ σ' ⟨a,ha⟩
 obtain ⟨k,h1,h2,h3⟩:=h a _ _ ha
 exact ⟨k,h1,h2,fun τ ht=>⟨a,h3 τ ht⟩⟩
def Nil:Rel:=fun σ σ'=>σ'=σ
theorem Ay.nil:Ay Nil:=by
 rintro σ σ' rfl
 refine ⟨fun _=>none,fun b=>.inr rfl,?_,fun τ _=>?_⟩
 ·funext b;rfl
 ·show Hp.un τ _=τ
  funext b;rfl
def Blk (b:Nat) (o:Obj):Rel:=fun σ σ'=>σ b=none/\σ'=σ.ins b o
theorem Ay.blk {b:Nat} {o:Obj}:Ay (Blk b o):=by
 rintro σ σ' ⟨hb,rfl⟩
 have e:∀ τ:Hp,τ.ins b o=Hp.un τ (Hp.ins (fun _=>none) b o):=fun τ=>by
  funext k
  by_cases hk:k=b
  ·subst hk;rw [G0 (Hp.ins_same ..),Hp.ins_same]
  ·rw [De (by rw [Hp.ins_ne _ hk]),Hp.ins_ne _ hk]
 refine ⟨Hp.ins (fun _=>none) b o,fun k=>?_,e σ,fun τ ht=>⟨?_,(e τ).symm⟩⟩
 ·by_cases hk:k=b
  ·subst hk;exact .inl hb
  ·exact .inr (by rw [Hp.ins_ne _ hk])
 ·rcases ht b with h | h
  ·exact h
  ·rw [Hp.ins_same] at h;cases h
theorem Blk.get {b:Nat} {o:Obj} {σ σ':Hp} (h:Blk b o σ σ'):σ' b=some (o,true):=by
 obtain ⟨_,rfl⟩:=h
 exact Hp.ins_same ..
theorem Blk.put {b i:Nat} {c:Array Value} {e:TypeId} {f:Nat×Nat} {σ σ':Hp} (h:Blk b (.cells c e f) σ σ') (v:Value):Blk b (.cells (c.setIfInBounds i v) e f) σ (σ'.put ⟨b,i,none⟩ v):=by
 obtain ⟨hb,rfl⟩:=h
 refine ⟨hb,?_⟩
 funext k
 by_cases hk:k=b
 ·subst hk
  rw [Hp.put_same (Hp.ins_same ..),Hp.ins_same]
 ·rw [Hp.put_ne (show k≠(⟨b,i,none⟩:Addr).block from hk),Hp.ins_ne _ hk,Hp.ins_ne _ hk]
theorem Ay.own {e:TypeId} {ss:List Sh} {A:aA} {n c:Nat} {xs:List (TyR ss)}:Ay fun σ σ'=>Ak e ss σ A n c xs σ':=by
 rintro σ σ' (⟨h1,h2,h3,h4,rfl⟩ | ⟨b,off,cells,hA,hn,hnc,hb,rfl,hs,hr⟩)
 ·obtain ⟨k,q1,q2,q3⟩:=Ay.nil _ _ (rfl:Nil σ' σ')
  exact ⟨k,q1,q2,fun τ ht=>.inl ⟨h1,h2,h3,h4,q3 τ ht⟩⟩
 ·obtain ⟨k,q1,q2,q3⟩:=Ay.blk (b:=b) (o:=.cells cells e (0,0)) _ _ ⟨hb,rfl⟩
  exact ⟨k,q1,q2,fun τ ht=>.inr ⟨b,off,cells,hA,hn,hnc,(q3 τ ht).1,(q3 τ ht).2,hs,hr⟩⟩
theorem PL {σ τ:Hp} (hs:Hp.Sub σ τ) {b i:Nat} {x:Obj×Bool} (hb:σ b=some x) (v:Value):Hp.Sub (σ.put ⟨b,i,none⟩ v) (τ.put ⟨b,i,none⟩ v):=by
 intro k y hk
 by_cases e:k=b
 ·subst e
  have e1:=hs _ _ hb
  unfold Hp.put at hk ⊢
  rw [if_pos rfl] at hk ⊢
  rw [hb] at hk
  rw [e1]
  exact hk
 ·rw [Hp.put_ne (show k≠(⟨b,i,none⟩:Addr).block from e)] at hk ⊢
  exact hs _ _ hk
theorem Ak.junk {e:TypeId} {ss:List Sh} {s1 σ2 σ:Hp} {A:aA} {n c:Nat} {xs:List (TyR ss)} (h:Ak e ss s1 A n c xs σ2) (hs:Hp.Sub σ2 σ):∃ σ',Ak e ss σ' A n c xs σ/\Hp.Sub s1 σ':=by
 rcases h with ⟨h1,h2,h3,h4,rfl⟩ | ⟨b,off,cells,hA,hn,hnc,hb,rfl,hsz,hr⟩
 ·exact ⟨σ,.inl ⟨h1,h2,h3,h4,rfl⟩,hs⟩
 ·have e:=hs _ _ (Hp.ins_same ..)
  refine ⟨fun k=>if k=b then none else σ k,.inr ⟨b,off,cells,hA,hn,hnc,if_pos rfl,?_,hsz,hr⟩,fun k x hk=>?_⟩
  ·funext k
   by_cases hk:k=b
   ·subst hk;rw [Hp.ins_same,e]
   ·rw [Hp.ins_ne _ hk,if_neg hk]
  ·have hk2:k≠b:=fun e2=>by rw [e2,hb] at hk;cases hk
   show (if k=b then none else σ k)=some x
   rw [if_neg hk2]
   exact hs _ _ (by rw [Hp.ins_ne _ hk2];exact hk)
def CI:List Rel->Rel
 | []=>Nil
 | R::rs=>(CI rs).seq R
theorem Ay.star:∀ {rs:List Rel},(∀ R∈rs,Ay R)->Ay (CI rs)
 | [],_=>Ay.nil
 | _::_,h=>(Ay.star fun R hR=>h R (List.mem_cons_of_mem _ hR)).seq (h _ (List.mem_cons_self ..))
theorem QD:∀ {rs:List Rel} {σ σ':Hp} {k:Nat},(∀ R∈rs,Ay R)->(hk:k<rs.length)->CI rs σ σ'->∃ s1,CI (rs.eraseIdx k) σ s1/\rs[k] s1 σ'
 | R::rs,σ,σ',0,_,_,⟨s1,h1,h2⟩=>⟨s1,h1,h2⟩
 | R::rs,σ,σ',k+1,hp,hk,⟨s1,h1,h2⟩=>by
  obtain ⟨σ2,q1,q2⟩:=QD (fun R hR=>hp R (List.mem_cons_of_mem _ hR)) (by simpa using hk) h1
  obtain ⟨s3,r1,r2⟩:=Ay.swap (hp _ (List.mem_cons_of_mem _ (List.getElem_mem _))) (hp R (List.mem_cons_self ..)) q2 h2
  exact ⟨s3,⟨σ2,q1,r1⟩,r2⟩
theorem T6:∀ {rs:List Rel} {σ s1 σ':Hp} {k:Nat} {R':Rel},(∀ R∈rs,Ay R)->Ay R'->k<rs.length->CI (rs.eraseIdx k) σ s1->R' s1 σ'->CI (rs.set k R') σ σ'
 | R::rs,σ,s1,σ',0,R',_,_,_,h,h'=>⟨s1,h,h'⟩
 | R::rs,σ,s1,σ',k+1,R',hp,hp',hk,⟨σ2,h1,h2⟩,h'=>by
  obtain ⟨s3,r1,r2⟩:=Ay.swap (hp R (List.mem_cons_self ..)) hp' h2 h'
  exact ⟨s3,T6 (fun R hR=>hp R (List.mem_cons_of_mem _ hR)) hp' (by simpa using hk) h1 r1,r2⟩
theorem Qc:∀ {rs ss:List Rel} {σ σ':Hp},CI (rs++ss) σ σ'↔∃ s1,CI ss σ s1/\CI rs s1 σ'
 | [],ss,σ,σ'=>⟨fun h=>⟨σ',h,rfl⟩,fun ⟨s1,h,e⟩=>by (have e:σ'=s1:=e);subst e;exact h⟩
 | R::rs,ss,σ,σ'=>by
  constructor
  ·rintro ⟨σ2,h1,h2⟩
   obtain ⟨s1,q1,q2⟩:=Qc.1 h1
   exact ⟨s1,q1,σ2,q2,h2⟩
  ·rintro ⟨s1,q1,σ2,q2,h2⟩
   exact ⟨σ2,Qc.2 ⟨s1,q1,q2⟩,h2⟩
theorem WR {rs:List Rel} {R:Rel} {σ s1 σ':Hp} (hp:∀ R∈rs,Ay R) (hR:Ay R) (h:CI rs σ s1) (h':R s1 σ'):CI (rs++[R]) σ σ':=by
 obtain ⟨σ2,q1,q2⟩:=Ay.swap (Ay.star hp) hR h h'
 exact Qc.2 ⟨σ2,⟨σ,rfl,q1⟩,q2⟩
theorem Ay.junk {R:Rel} (hR:Ay R) {s1 σ2 σ:Hp} (h:R s1 σ2) (hs:Hp.Sub σ2 σ):∃ s1',R s1' σ/\Hp.Sub s1 s1':=by
 obtain ⟨k,hd,rfl,hk⟩:=hR _ _ h
 have e:Hp.un (fun b=>match k b with | some _=>none | none=>σ b) k=σ:=by
  funext b
  cases ek:k b with
  | some x=>rw [G0 ek];exact (hs _ _ (G0 ek)).symm
  | none=>rw [De ek];simp only [ek]
 refine ⟨fun b=>match k b with | some _=>none | none=>σ b,?_,fun b x hb=>?_⟩
 ·have:=hk (fun b=>match k b with | some _=>none | none=>σ b) (fun b=>by
   cases ek:k b with
   | some x=>exact .inl (by simp only [ek])
   | none=>exact .inr rfl)
  rwa [e] at this
 ·rcases hd b with h1 | h1
  ·rw [h1] at hb;cases hb
  ·simp only [h1]
   exact hs _ _ (by rw [De h1];exact hb)
theorem Ay.less {R:Rel} (hR:Ay R) {σ2 s3 σ:Hp} (h:R σ2 σ) (hs:Hp.Sub s3 σ2):∃ s4,R s3 s4/\Hp.Sub s4 σ:=by
 obtain ⟨k,hd,rfl,hk⟩:=hR _ _ h
 refine ⟨_,hk s3 (fun b=>?_),fun b x hb=>?_⟩
 ·rcases hd b with h1 | h1
  ·exact .inl (by
    cases e:s3 b with
    | none=>rfl
    | some y=>have:=hs _ _ e;rw [h1] at this;cases this)
  ·exact .inr h1
 ·cases ek:k b with
  | some y=>rw [G0 ek] at hb ⊢;exact hb
  | none=>rw [De ek] at hb ⊢;exact hs _ _ hb
def Lse (R:Rel):Rel:=fun s0 σ=>∃ s1,R s0 s1/\Hp.Sub s1 σ
theorem Lse.of {R:Rel} {s0 σ:Hp} (h:R s0 σ):Lse R s0 σ:=⟨σ,h,Hp.Sub.refl _⟩
theorem Lse.up {R:Rel} {s0 σ σ':Hp} (h:Lse R s0 σ) (hs:Hp.Sub σ σ'):Lse R s0 σ':=let ⟨s1,h1,h2⟩:=h;⟨s1,h1,h2.trans hs⟩
theorem Lse.sub {R:Rel} (hR:Ay R) {s0 σ:Hp} (h:Lse R s0 σ):Hp.Sub s0 σ:=let ⟨_,h1,h2⟩:=h;(hR.sub h1).trans h2
theorem Lse.exact {R:Rel} (hR:Ay R) {s0 σ:Hp} (h:Lse R s0 σ):∃ s0',R s0' σ/\Hp.Sub s0 s0':=let ⟨_,h1,h2⟩:=h;hR.junk h1 h2
theorem Lse.low {R:Rel} (hR:Ay R) {s0 s1 σ:Hp} (h:Lse R s1 σ) (hs:Hp.Sub s0 s1):Lse R s0 σ:=by
 obtain ⟨σ2,h1,h2⟩:=h
 obtain ⟨s4,h3,h4⟩:=hR.less h1 hs
 exact ⟨s4,h3,h4.trans h2⟩
theorem Lse.swap {R S:Rel} (hR:Ay R) (hS:Ay S) {σ s1 σ2:Hp} (h:Lse R σ s1) (h':Lse S s1 σ2):∃ s1',Lse S σ s1'/\Lse R s1' σ2:=by
 obtain ⟨sa,h1,h2⟩:=h
 obtain ⟨σb,h3,h4⟩:=h'
 obtain ⟨σc,h5,h6⟩:=hS.less h3 h2
 obtain ⟨sd,h7,h8⟩:=Ay.swap hR hS h1 h5
 exact ⟨sd,Lse.of h7,σc,h8,h6.trans h4⟩
theorem Lse.own_up {R:Rel} (hR:Ay R) {e:TypeId} {ss:List Sh} {s1 σ2 σ:Hp} {A:aA} {n c:Nat} {xs:List (TyR ss)} (h:Ak e ss s1 A n c xs σ2) (h':Lse R σ2 σ):∃ σ',Lse R s1 σ'/\Ak e ss σ' A n c xs σ:=by
 have hO:Ay (fun σ σ'=>Ak e ss σ A n c xs σ'):=Ay.own
 obtain ⟨s3,h1,h2⟩:=Lse.swap hO hR (Lse.of h) h'
 obtain ⟨s4,h3,h4⟩:=h2.exact hO
 exact ⟨s4,h1.up h4,h3⟩
theorem Lse.own_down {R:Rel} (hR:Ay R) {e:TypeId} {ss:List Sh} {s1 σ2 σ:Hp} {A:aA} {n c:Nat} {xs:List (TyR ss)} (h:Lse R s1 σ2) (h':Ak e ss σ2 A n c xs σ):∃ σ',Ak e ss s1 A n c xs σ'/\Lse R σ' σ:=by
 have hO:Ay (fun σ σ'=>Ak e ss σ A n c xs σ'):=Ay.own
 obtain ⟨s3,⟨s5,h5,h6⟩,h2⟩:=Lse.swap hR hO h (Lse.of h')
 exact ⟨s5,h5,h2.low hR h6⟩
theorem H4 {σ:Hp} {b k:Nat} {c:Array Value} {e:TypeId} {f:Nat×Nat} {rw:Bool} {v:Value} (h:σ b=some (.cells c e f,rw)) (hv:c[k]? = some v):σ.cell? ⟨b,k,none⟩=some v:=by
 unfold Hp.cell?
 simp only [h]
 exact hv
theorem KF {σ:Hp} {b k:Nat} {c:Array Value} {e:TypeId} (h:σ b=some (.cells c e (0,0),true)) (hk:k<c.size):σ.wr ⟨b,k,none⟩:=⟨c,e,h,hk,rfl⟩
section
variable {σ:Hp} {b k:Nat} {c:Array Value} {e:TypeId} {f:Nat×Nat} {rw:Bool}
theorem Bh {n:Int} {K:Int->Prop} (h:σ b=some (.cells c e f,rw)) (hv:c[k]? = some (aD n)) (hk:K n):ldI σ .i64 b k K:=⟨n,H4 h hv,hk⟩
theorem AbI {n:Bool} {K:Bool->Prop} (h:σ b=some (.cells c e f,rw)) (hv:c[k]? = some (.bool n)) (hk:K n):ldB σ b k K:=⟨n,H4 h hv,hk⟩
theorem Bu {A:aA} {n m:Nat} {K:aA->Nat->Nat->Prop} (h:σ b=some (.cells c e f,rw)) (hv:c[k]? = some (aN A n m)) (hk:K A n m):ldS σ b k K:=⟨A,n,m,H4 h hv,hk⟩
end
theorem Blk.st {b k:Nat} {c:Array Value} {e:TypeId} {s0 s1 σ:Hp} (h:Blk b (.cells c e (0,0)) s0 s1) (hs:Hp.Sub s1 σ) (hk:k<c.size) (v:Value):
  σ.wr ⟨b,k,none⟩/\Blk b (.cells (c.setIfInBounds k v) e (0,0)) s0 (s1.put ⟨b,k,none⟩ v)/\Hp.Sub (s1.put ⟨b,k,none⟩ v) (σ.put ⟨b,k,none⟩ v):=
 ⟨KF (hs _ _ h.get) hk,h.put v,PL hs h.get v⟩
theorem Ay.put {R:Rel} (hR:Ay R) {s1 σ2:Hp} (h:R s1 σ2) {b k:Nat} {x:Obj×Bool} (hb:s1 b=some x) (v:Value):R (s1.put ⟨b,k,none⟩ v) (σ2.put ⟨b,k,none⟩ v):=by
 obtain ⟨m,hd,rfl,hk⟩:=hR _ _ h
 have hm:m b=none:=by
  rcases hd b with h1 | h1
  ·rw [h1] at hb;cases hb
  ·exact h1
 have e:Hp.put (Hp.un s1 m) ⟨b,k,none⟩ v=Hp.un (s1.put ⟨b,k,none⟩ v) m:=by
  funext i
  by_cases hi:i=b
  ·subst hi
   unfold Hp.put
   rw [if_pos rfl,De hm,De hm]
   simp
  ·rw [Hp.put_ne (show i≠(⟨b,k,none⟩:Addr).block from hi)]
   cases em:m i with
   | some y=>rw [G0 em,G0 em]
   | none=>rw [De em,De em,Hp.put_ne (show i≠(⟨b,k,none⟩:Addr).block from hi)]
 rw [e]
 refine hk _ fun i=>?_
 rcases hd i with h1 | h1
 ·have:i≠b:=fun e=>by rw [← e,h1] at hb;cases hb
  exact .inl (by rw [Hp.put_ne (show i≠(⟨b,k,none⟩:Addr).block from this)];exact h1)
 ·exact .inr h1
def gt (xs:List Int) (i:Int):Int:=xs.getD i.toNat 0
theorem Ro {xs:List Int} {i:Int} (h:i.toNat<xs.length):gt xs i=xs[i.toNat]:=by simp [gt,List.getD,h]
theorem B3 {xs:List Int} {k:Nat} (h:k<xs.length):gt xs k=xs[k]:=by rw [Ro (by simpa using h)];simp
theorem EJ {σ:Hp} {A:aA} {n:Nat} {xs:List Int} {i:Int} {K:Int->Prop} (h:RdS aM σ A n xs) (hi:0<=i) (hn:i<xs.length) (hk:K (gt xs i)):ix A n i 1 fun b a=>ldI σ .i64 b a K:=
 Aas h hi (by omega) (by rw [← Ro (by omega)];exact hk)
theorem AbA {xs:List Int} {i:Int} {K:Int->Prop} (h0:0<=i) (h1:i<xs.length) (hk:K (gt xs i)):lat xs i.toNat K:=⟨by omega,by rw [← Ro (by omega)];exact hk⟩
theorem Lv {α β:Type} {f:β->α->β} {b:β} {xs:List α} {k:Nat} (h:k<xs.length):(xs.take (k+1)).foldl f b=f ((xs.take k).foldl f b) xs[k]:=by
 rw [List.take_succ_eq_append_getElem h,List.foldl_append]
 rfl
theorem S0 {A B:List Int} {x:Int}:gt (A++x::B) A.length=x:=by
 rw [B3 (by simp)]
 simp
def CO:List Int->Int
 | []=>0
 | x::xs=>x+CO xs
theorem Ua:∀ (xs ys:List Int),CO (xs++ys)=CO xs+CO ys
 | [],ys=>by simp [CO]
 | x::xs,ys=>by
  have:=Ua xs ys
  simp only [List.cons_append,CO,this]
  omega
theorem Td:∀ {xs:List Int} {i:Nat} {v:Int} (h:i<xs.length),CO (xs.set i v)=CO xs-xs[i]+v
 | x::xs,0,v,_=>by simp [CO];omega
 | x::xs,i+1,v,h=>by
  have:=Td (xs:=xs) (i:=i) (v:=v) (by simpa using h)
  simp only [List.set_cons_succ,CO,this,List.getElem_cons_succ]
  omega
theorem OO {xs:List Int} {c v:Int} (h0:0<=c) (h1:c<xs.length):CO (xs.set c.toNat v)=CO xs-gt xs c+v:=by
 rw [Td (by omega),Ro (by omega)]
theorem W4 {σ σ':Hp} {a:Addr} {v:Value} (hs:Hp.Sub σ σ') (h:σ.cell? a=some v):σ'.cell? a=some v:=by
 unfold Hp.cell? at h ⊢
 split at h
 ·rename_i e
  rw [hs _ _ e]
  exact h
 ·cases h
def Bx1 (σ:Hp) (p:aA) (v:Value):Prop:=∃ b,p=some ⟨b,0,none⟩/\σ.cell? ⟨b,0,none⟩=some v
theorem Bx1.sub {σ σ':Hp} {p:aA} {v:Value} (h:Bx1 σ p v) (hs:Hp.Sub σ σ'):Bx1 σ' p v:=let ⟨b,h1,h2⟩:=h;⟨b,h1,W4 hs h2⟩
theorem Bx1.ldP {σ:Hp} {p q:aA} {K:aA->Prop} (h:Bx1 σ p (.pointer q)) (hk:K q):dr p fun b o=>ldP σ b o K:=by
 obtain ⟨b,rfl,hc⟩:=h
 exact AG (AaI hc hk)
theorem Abx {σ:Hp} {A:aA} {n:Nat} {xs:List (aA)} {i:Int} {K:aA->Prop} (h:RdS [.ptr] σ A n xs) (hi:0<=i) (hn:i.toNat<xs.length) (hk:K (xs.getD i.toNat none)):ix A n i 1 fun b a=>ldP σ b a K:=by
 have hl:n=xs.length:=h.1
 obtain ⟨b,off,rfl,hc⟩:=h.at1 hn
 have e:xs.getD i.toNat none=xs[i.toNat]:=by simp [List.getD,hn]
 rw [e] at hk
 refine ⟨hi,?_,xs[i.toNat],?_,hk⟩
 ·rw [hl];clear hc hk;omega
 ·exact hc
theorem RA {R:Rel} (hR:Ay R) {sa σ σc sa' sc':Hp} (h:R sa σ) (hs:Hp.Sub σ σc) (hf:Frm sa σc sa' sc'):∃ s'',R sa' s''/\Frm σ σc s'' sc':=by
 obtain ⟨m,hd,rfl,hk⟩:=hR _ _ h
 have hdj:Hp.dj sa' m:=fun b=>by
  cases em:m b with
  | none=>exact .inr rfl
  | some x=>
   rcases hd b with h1 | h1
   ·exact .inl (hf.2 b x h1 (hs _ _ (G0 em))).2
   ·rw [em] at h1;cases h1
 refine ⟨_,hk sa' hdj,fun b x hb=>?_,fun b x h1 h2=>?_⟩
 ·cases em:m b with
  | some y=>
   rw [G0 em] at hb
   cases hb
   rcases hd b with h1 | h1
   ·exact (hf.2 b _ h1 (hs _ _ (G0 em))).1
   ·rw [em] at h1;cases h1
  | none=>
   rw [De em] at hb
   exact hf.1 _ _ hb
 ·obtain ⟨h3,h4⟩:=Lp h1
  obtain ⟨h5,h6⟩:=hf.2 b x h3 h2
  exact ⟨h5,by rw [De h4];exact h6⟩
theorem Af.over {P:Program} {f:FuncId} {args:Array Value} {R:Rel} (hR:Ay R) {sa σ:Hp} {Q:aB} (hc:Af P f args sa Q) (h:R sa σ):Af P f args σ fun v σ'=>∃ sa',Q v sa'/\R sa' σ':=
 fun σc hs=>(hc σc ((hR.sub h).trans hs)).mono fun _ _ ⟨sa',hQ,hf⟩=>
  let ⟨s'',h1,h2⟩:=RA hR h hs hf
  ⟨s'',⟨sa',hQ,h1⟩,h2⟩
theorem cl.over {P:Program} {f:Value} {args:Array Value} {R:Rel} (hR:Ay R) {sa σ:Hp} {Q:aB} (hc:cl P f args sa Q) (h:R sa σ):cl P f args σ fun v σ'=>∃ sa',Q v sa'/\R sa' σ':=
 fun σc hs=>(hc σc ((hR.sub h).trans hs)).mono fun _ _ ⟨sa',hQ,hf⟩=>
  let ⟨s'',h1,h2⟩:=RA hR h hs hf
  ⟨s'',⟨sa',hQ,h1⟩,h2⟩
theorem cl.own {P:Program} {f:Value} {args:Array Value} {e:TypeId} {ss:List Sh} {sa σ:Hp} {A:aA} {n c:Nat} {xs:List (TyR ss)} {Q K:aB} (hc:cl P f args sa Q) (h:Ak e ss sa A n c xs σ) (hk:∀ v sa' σ',Q v sa'->Ak e ss sa' A n c xs σ'->K v σ'):cl P f args σ K:=
 B7.mono (cl.over (R:=fun σ σ'=>Ak e ss σ A n c xs σ') Ay.own hc h) fun v σ' ⟨sa',h1,h2⟩=>hk v sa' σ' h1 h2
def Vf (P:Program) (t e:TypeId) (w:Nat):Bool:=match P.underlying t with
 | some (.slice e')=>Nat.beq e' e&&match P.info? e with
  | some ie=>match ie.zero with
   | some z=>Nat.beq z.cells.size w&&z.cells.toList.all Gg
   | none=>false
  | none=>false
 | _=>false
theorem XO {P:Program} {t e:TypeId} {w:Nat} (h:Vf P t e w=true):P.underlying t=some (.slice e)/\∃ ie z,P.info? e=some ie/\ie.zero=some z/\z.cells.size=w/\∀ v∈z.cells.toList,Gg v=true:=by
 unfold Vf at h
 split at h
 ·rename_i e' he
  simp only [Bool.and_eq_true] at h
  have:=Nat.eq_of_beq_eq_true h.1
  subst this
  split at h
  ·rename_i ie hie
   split at h
   ·rename_i z hz
    simp only [Bool.and_eq_true] at h
    exact ⟨he,ie,z,hie,hz,Nat.eq_of_beq_eq_true h.2.1,fun v hv=>List.all_eq_true.1 h.2.2 v hv⟩
   ·simp at h
  ·simp at h
 ·cases h
theorem Zg {P:Program} {t ty e:TypeId} {ss:List Sh} {σ σ':Hp} {A base:aA} {n c k dc:Nat} {xs:List (TyR ss)} {K:Hp->Prop} (hok:Vf P t e ss.length=true) (hw:0<ss.length)
  (h:Ak e ss σ A n c xs σ') (hk:k<=n) (hb:∀ b off,A=some ⟨b,off,none⟩->k<n->base=some ⟨b,off+k*ss.length,none⟩)
  (hK:∀ σ2,Ak e ss σ A k c (xs.take k) σ2->K σ2):clr P #[t] ty #[aN base (n-k) dc] σ' K:=by
 obtain ⟨hund,ie,z,hie,hz,hzs,hone⟩:=XO hok
 unfold clr Builtin.clear_
 simp only [List.getElem?_toArray,List.getElem?_cons_zero]
 refine Nf hund ?_
 rcases h with ⟨rfl,rfl,rfl,rfl,rfl⟩ | ⟨b,off,cells,hA,hn,hnc,hb',rfl,hsz,hr⟩
 ·have e1:(0:Nat)-k=0:=by omega
  rw [e1]
  have:k=0:=by omega
  subst this
  have h3:=hK _ (.inl ⟨rfl,rfl,rfl,by simp,rfl⟩)
  cases base with
  | none=>exact ⟨rfl,h3⟩
  | some a=>exact ⟨rfl,h3⟩
 ·rcases Nat.eq_zero_or_pos (n-k) with e1 | e1
  ·rw [e1]
   have:k=n:=by omega
   subst this
   have h3:=hK _ (.inr ⟨b,off,cells,hA,by rw [List.length_take];omega,hnc,hb',rfl,hsz,hr.take _⟩)
   cases base with
   | none=>exact ⟨rfl,h3⟩
   | some a=>exact ⟨rfl,h3⟩
  ·have e0:=hb b off hA (by omega)
   subst e0
   obtain ⟨q,eq⟩:∃ q,n-k=q+1:=⟨n-k-1,by omega⟩
   rw [eq]
   refine KT hie hz ?_
   refine Bl _ _ _ _ ?_
   refine GA _ 0 _ ?_
   have hzl:(Builtin.zeroCells z.cells (q+1)).toList.length=(q+1)*ss.length:=by simp [Builtin.zeroCells,hzs]
   have hm:k*ss.length+(q+1)*ss.length=n*ss.length:=by rw [← Nat.add_mul];congr 1;omega
   have hm2:n*ss.length<=c*ss.length:=Nat.mul_le_mul_right _ hnc
   refine Sz _ 0 cells _ (Hp.ins_same ..) (fun v hv=>?_) (by rw [hzl];omega) ?_
   ·obtain ⟨i,hi,rfl⟩:=List.getElem_of_mem hv
    have:i%ss.length<z.cells.size:=by rw [hzs];exact Nat.mod_lt _ hw
    simp only [Builtin.zeroCells,Array.toList_map,List.getElem_map,Array.getElem_toList,Array.getElem_range,hzs]
    rw [getElem!_pos z.cells _ this]
    exact hone _ (by simp)
   ·intro c' s3 h1 h2 h3 h4 h5 h6
    refine ⟨rfl,hK _ ?_⟩
    have e3:s3=σ.ins b (.cells c' e (0,0)):=by
     funext x
     by_cases hx:x=b
     ·subst hx;rw [h5,Hp.ins_same]
     ·rw [h6 x hx,Hp.ins_ne _ hx,Hp.ins_ne _ hx]
    refine .inr ⟨b,off,c',hA,by rw [List.length_take];omega,by omega,hb',e3,by omega,?_⟩
    intro i j hi hj
    have hi':i<k:=by rw [List.length_take] at hi;omega
    have:=Oc (n:=k) hi' hj
    rw [h2 _ (by omega)]
    exact hr.take k i j hi hj
section
variable {α:Type}
def U5 (le:α->α->Bool) (x:α):List α->List α
 | []=>[x]
 | y::ys=>if le x y=true then x::y::ys else y::U5 le x ys
def M9 (le:α->α->Bool):List α->List α
 | []=>[]
 | x::xs=>U5 le x (M9 le xs)
theorem On (le:α->α->Bool) (x:α):∀ xs:List α,(U5 le x xs).Perm (x::xs)
 | []=>List.Perm.refl _
 | y::ys=>by
  unfold U5
  split
  ·exact List.Perm.refl _
  ·exact ((On le x ys).cons y).trans (List.Perm.swap x y ys)
theorem Cn (le:α->α->Bool):∀ xs:List α,(M9 le xs).Perm xs
 | []=>List.Perm.refl _
 | x::xs=>(On le x _).trans ((Cn le xs).cons x)
theorem IW (le:α->α->Bool) (xs:List α):(M9 le xs).length=xs.length:=(Cn le xs).length_eq
theorem Rs {le:α->α->Bool} {xs:List α} {a:α}:a∈M9 le xs↔a∈xs:=(Cn le xs).mem_iff
theorem O1 {le:α->α->Bool} (ht:∀ a b c,le a b=true->le b c=true->le a c=true) (hl:∀ a b,le a b=true∨le b a=true) (x:α):∀ xs:List α,xs.Pairwise (fun a b=>le a b=true)->(U5 le x xs).Pairwise (fun a b=>le a b=true)
 | [],_=>by simp [U5]
 | y::ys,h=>by
  obtain ⟨h1,h2⟩:=List.pairwise_cons.1 h
  unfold U5
  split
  ·rename_i hxy
   refine List.pairwise_cons.2 ⟨fun b hb=>?_,h⟩
   rcases List.mem_cons.1 hb with rfl | hb
   ·exact hxy
   ·exact ht _ _ _ hxy (h1 b hb)
  ·rename_i hxy
   refine List.pairwise_cons.2 ⟨fun b hb=>?_,O1 ht hl x ys h2⟩
   rcases List.mem_cons.1 ((On le x ys).mem_iff.1 hb) with rfl | hb
   ·rcases hl b y with h3 | h3
    ·exact absurd h3 hxy
    ·exact h3
   ·exact h1 b hb
theorem Ew {le:α->α->Bool} (ht:∀ a b c,le a b=true->le b c=true->le a c=true) (hl:∀ a b,le a b=true∨le b a=true):∀ xs:List α,(M9 le xs).Pairwise (fun a b=>le a b=true)
 | []=>List.Pairwise.nil
 | x::xs=>O1 ht hl x _ (Ew ht hl xs)
theorem GJ {R:α->α->Prop}:∀ {l1 l2:List α},l1.Perm l2->l1.Pairwise R->l2.Pairwise R->(∀ a∈l1,∀ b∈l1,R a b->R b a->a=b)->l1=l2
 | [],l2,h,_,_,_=>(List.nil_perm.1 h).symm
 | a::l1,[],h,_,_,_=>absurd h.length_eq (by simp)
 | a::l1,b::l2,h,h1,h2,ha=>by
  obtain ⟨p1,p2⟩:=List.pairwise_cons.1 h1
  obtain ⟨q1,q2⟩:=List.pairwise_cons.1 h2
  have e:a=b:=by
   have m1:a∈b::l2:=h.mem_iff.1 (List.mem_cons_self ..)
   have m2:b∈a::l1:=h.mem_iff.2 (List.mem_cons_self ..)
   rcases List.mem_cons.1 m1 with e | m1
   ·exact e
   ·rcases List.mem_cons.1 m2 with e | m2
    ·exact e.symm
    ·exact ha a (List.mem_cons_self ..) b (List.mem_cons_of_mem _ m2) (p1 b m2) (q1 a m1)
  subst e
  rw [GJ ((List.perm_cons a).1 h) p2 q2 fun x hx y hy=>ha x (List.mem_cons_of_mem _ hx) y (List.mem_cons_of_mem _ hy)]
theorem FO {le:α->α->Bool} (ht:∀ a b c,le a b=true->le b c=true->le a c=true) (hl:∀ a b,le a b=true∨le b a=true) {xs:List α} (ha:∀ a∈xs,∀ b∈xs,le a b=true->le b a=true->a=b):xs.mergeSort le=M9 le xs:=by
 refine GJ (R:=fun a b=>le a b=true) ((List.mergeSort_perm xs le).trans (Cn le xs).symm) ?_ (Ew ht hl xs) fun a h1 b h2=>ha a ((List.mergeSort_perm xs le).mem_iff.1 h1) b ((List.mergeSort_perm xs le).mem_iff.1 h2)
 exact List.pairwise_mergeSort (le:=le) (fun a b c=>ht a b c) (fun a b=>by
  rcases hl a b with h | h<;>simp [h]) xs
end
end Go.Proofs.YtoelhdjloaknbaaGreat
