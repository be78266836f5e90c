/- What this claim rests on. -/
import Derived.Test.YtoelhdjloaknbaaGreatUB13
namespace Go.Proofs.YtoelhdjloaknbaaGreat
open Go.RowKit Go.Proofs.Tryz
theorem U7 {σ:Hp} {b:Nat} {o o':Obj}:(σ.ins b o).ins b o'=σ.ins b o':=by
 funext k
 by_cases hk:k=b
 ·subst hk;rw [Hp.ins_same,Hp.ins_same]
 ·rw [Hp.ins_ne _ hk,Hp.ins_ne _ hk,Hp.ins_ne _ hk]
theorem E7 {σ:Hp} {b k:Nat} {c:Array Value} {e:TypeId} {v:Value} (h:σ b=some (.cells c e (0,0),true)):σ.put ⟨b,k,none⟩ v=σ.ins b (.cells (c.setIfInBounds k v) e (0,0)):=by
 funext i
 by_cases hi:i=b
 ·subst hi;rw [Hp.ins_same,Hp.put_same h]
 ·rw [Hp.ins_ne _ hi,Hp.put_ne (show i≠(⟨b,k,none⟩:Addr).block from hi)]
theorem Blk.again {b:Nat} {o o':Obj} {σ σ':Hp} (h:Blk b o σ σ'):Blk b o' σ (σ'.ins b o'):=by
 obtain ⟨h1,rfl⟩:=h
 exact ⟨h1,U7⟩
theorem Blk.nin {b:Nat} {o:Obj} {σ σ':Hp} (h:Blk b o σ σ'):Hp.Sub σ σ':=Ay.blk.sub h
theorem Ay.again {R:Rel} (hR:Ay R) {s1 σ2:Hp} (h:R s1 σ2) {b:Nat} {x:Obj×Bool} (hb:s1 b=some x) (o:Obj):R (s1.ins b o) (σ2.ins b o):=by
 obtain ⟨m,hd,rfl,hk⟩:=hR _ _ h
 have hm:m b=none:=by
  rcases hd b with h1 | h1
  ·rw [h1] at hb;cases hb
  ·exact h1
 have e:Hp.ins (Hp.un s1 m) b o=Hp.un (s1.ins b o) m:=by
  funext i
  by_cases hi:i=b
  ·subst hi
   rw [Hp.ins_same,De hm,Hp.ins_same]
  ·rw [Hp.ins_ne _ hi]
   cases em:m i with
   | some y=>rw [G0 em,G0 em]
   | none=>rw [De em,De em,Hp.ins_ne _ hi]
 rw [e]
 refine hk _ fun i=>?_
 by_cases hi:i=b
 ·subst hi;exact Or.inr hm
 ·rcases hd i with h1 | h1
  ·exact Or.inl (by rw [Hp.ins_ne _ hi];exact h1)
  ·exact Or.inr h1
def Bxs:List (Nat×Obj)->Rel
 | []=>Nil
 | x::l=>(Blk x.1 x.2).seq (Bxs l)
theorem Bxs.port:∀ {l:List (Nat×Obj)},Ay (Bxs l)
 | []=>Ay.nil
 | _::_=>Ay.blk.seq Bxs.port
theorem Bxs.sub {l:List (Nat×Obj)} {s τ:Hp} (h:Bxs l s τ):Hp.Sub s τ:=Bxs.port.sub h
theorem Bxs.at:∀ {l:List (Nat×Obj)} {s τ:Hp},Bxs l s τ->∀ {k:Nat} {b:Nat} {o:Obj},l[k]? = some (b,o)->τ b=some (o,true)
 | _::_,_,_,⟨_,h1,h2⟩,0,_,_,hk=>by
  cases hk
  exact h2.sub _ _ h1.get
 | _::l,_,_,⟨_,_,h2⟩,k+1,_,_,hk=>h2.at (k:=k) (by simpa using hk)
theorem Bxs.set:∀ {l:List (Nat×Obj)} {s τ:Hp},Bxs l s τ->∀ {k:Nat} {b:Nat} {o:Obj} (_:l[k]? = some (b,o)) (o':Obj),Bxs (l.set k (b,o')) s (τ.ins b o')
 | _::_,_,_,⟨_,h1,h2⟩,0,_,_,hk,o'=>by
  cases hk
  exact ⟨_,h1.again,Bxs.port.again h2 h1.get o'⟩
 | _::l,_,_,⟨_,h1,h2⟩,k+1,_,_,hk,o'=>⟨_,h1,h2.set (k:=k) (by simpa using hk) o'⟩
theorem Bxs.snoc:∀ {l:List (Nat×Obj)} {s τ t':Hp} {b:Nat} {o:Obj},Bxs l s τ->Blk b o τ t'->Bxs (l++[(b,o)]) s t'
 | [],_,_,_,_,_,h,h'=>by
  cases (show _=_ from h)
  exact ⟨_,h',rfl⟩
 | _::_,_,_,_,_,_,⟨_,h1,h2⟩,h'=>⟨_,h1,h2.snoc h'⟩
theorem Bxs.ins {l:List (Nat×Obj)} {s τ:Hp} (h:Bxs l s τ) {b:Nat} (hb:τ b=none) (o:Obj):Bxs (l++[(b,o)]) s (τ.ins b o):=h.snoc ⟨hb,rfl⟩
theorem Bxs.stv {l:List (Nat×Obj)} {s τ:Hp} (h:Bxs l s τ) {k b i:Nat} {c:Array Value} {e:TypeId} {v:Value} {K:Hp->Prop} (hk:l[k]? = some (b,.cells c e (0,0))) (hi:i<c.size)
  (hK:∀ t',Bxs (l.set k (b,.cells (c.setIfInBounds i v) e (0,0))) s t'->K t'):st τ b i v K:=by
 have hb:=h.at hk
 refine ⟨KF hb hi,?_⟩
 rw [E7 hb]
 exact hK _ (h.set hk _)
theorem Bxs.app:∀ {l l':List (Nat×Obj)} {s t u:Hp},Bxs l s t->Bxs l' t u->Bxs (l++l') s u
 | [],_,_,_,_,h,h'=>by
  cases (show _=_ from h)
  exact h'
 | _::_,_,_,_,_,⟨_,h1,h2⟩,h'=>⟨_,h1,h2.app h'⟩
theorem Bxs.cut:∀ {l l':List (Nat×Obj)} {s u:Hp},Bxs (l++l') s u->∃ t,Bxs l s t/\Bxs l' t u
 | [],_,_,_,h=>⟨_,rfl,h⟩
 | _::_,_,_,_,⟨_,h1,h2⟩=>let ⟨t,h3,h4⟩:=Bxs.cut h2;⟨t,⟨_,h1,h3⟩,h4⟩
theorem UZ.nf {P:Program} {g:FuncId} {caps args:Array Value} {σ:Hp} {R:aB} (he:Ap P g=true) (h:Af P g (TO #[] args caps) σ R):UZ P (.func (.func g) #[] caps) args σ R:=fun σc hs=>⟨he,h σc hs⟩
theorem RdS.tk {ss:List Sh} {σ:Hp} {A:aA} {n:Nat} {xs:List (TyR ss)} (h:RdS ss σ A n xs) {k:Nat} (hk:k<=n):RdS ss σ A k (xs.take k):=by
 refine ⟨?_,?_⟩
 ·rw [List.length_take];have:=h.1;omega
 ·rcases h.2 with h0 | ⟨b,off,cells,e,f,rw,hA,hb,hr⟩
  ·exact .inl (by omega)
  ·exact .inr ⟨b,off,cells,e,f,rw,hA,hb,hr.take k⟩
theorem Ak.capN {e:TypeId} {ss:List Sh} {σ σ':Hp} {A:aA} {n c:Nat} {xs:List (TyR ss)} (h:Ak e ss σ A n c xs σ'):n<=c:=by
 rcases h with ⟨_,rfl,_⟩ | ⟨_,_,_,_,_,h,_⟩
 ·exact Nat.zero_le _
 ·exact h
end Go.Proofs.YtoelhdjloaknbaaGreat
