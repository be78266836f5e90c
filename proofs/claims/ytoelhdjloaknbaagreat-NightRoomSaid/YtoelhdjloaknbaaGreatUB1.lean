/- What this claim rests on. -/
import Derived.Test.YtoelhdjloaknbaaGreatRows
import Derived.WalkKit
import Derived.OrdersHeld
import Derived.OrdersIn
import Derived.RangeFuncRecord
import Derived.KernelRfl
import Derived.ChangeKeysEq
import Derived.Laws.StructEq
import Derived.Sort.LoopGhostIn
namespace Go.Proofs.YtoelhdjloaknbaaGreat
open Go.RowKit
abbrev aA:=Option Addr
abbrev Hp:=Nat->Option (Obj×Bool)
def Gg:Value->Bool
 | .agg _ | .tuple _=>false
 | _=>true
namespace Hp
def ins (σ:Hp) (b:Nat) (o:Obj):Hp:=fun k=>if k=b then some (o,true) else σ k
def cell? (σ:Hp) (a:Addr):Option Value:=
 match σ a.block with
 | some (.cells c _ _,_)=>if a.spot.isSome then none else c[a.off]?
 | _=>none
def wr (σ:Hp) (a:Addr):Prop:=∃ c e,σ a.block=some (.cells c e (0,0),true)/\a.off<c.size/\a.spot=none
def put (σ:Hp) (a:Addr) (v:Value):Hp:=fun k=>
 if k=a.block then (match σ k with | some (.cells c e f,rw)=>some (.cells (c.setIfInBounds a.off v) e f,rw) | x=>x) else σ k
def shapeOf:Obj->Option (TypeId×Nat)
 | .cells c e _=>some (e,c.size)
 | _=>none
def frozenOf (o:Obj) (a:Addr):Bool:=
 match o with
 | .cells _ _ (lo,hi)=>lo<=a.off&&a.off<hi
 | _=>false
def isCells:Obj->Bool
 | .cells ..=>true
 | _=>false
def Sub (σ' σ:Hp):Prop:=∀ b x,σ' b=some x->σ b=some x
theorem Sub.refl (σ:Hp):Sub σ σ:=fun _ _ h=>h
theorem Sub.trans {a b c:Hp} (h:Sub a b) (k:Sub b c):Sub a c:=fun x y e=>k x y (h x y e)
theorem Sub.ins {σ:Hp} {b:Nat} (o:Obj) (h:σ b=none):Sub σ (σ.ins b o):=fun k x e=>by
 unfold Hp.ins
 split
 ·rename_i hk;subst hk;rw [h] at e;cases e
 ·exact e
end Hp
structure Sat (B:Nat) (w0:World) (M:List Nat) (σ:Hp) (w:World):Prop where
 below:Below B w0 w
 base:B<=w0.heap.size
 marks:∀ m∈M,w.heap[m]? = some (.deferred (some []))/\B<=m/\σ m=none
 nodup:M.Nodup
 holds:∀ b o rw,σ b=some (o,rw)->w.heap[b]? = some o/\(rw=true->B<=b)/\(rw=false->b<B)
 drew:w0.drawn<=w.drawn
theorem QX (w:World) (a:Addr) (v:Value):(w.setCell a v).drawn=w.drawn:=rfl
theorem Sat.sub {B:Nat} {w0 w:World} {M:List Nat} {σ σ':Hp} (h:Sat B w0 M σ w) (hs:Hp.Sub σ' σ):Sat B w0 M σ' w:=
 ⟨h.below,h.base,fun m hm=>⟨(h.marks m hm).1,(h.marks m hm).2.1,by
  cases e:σ' m with
  | none=>rfl
  | some x=>have:=hs _ _ e;rw [(h.marks m hm).2.2] at this;cases this⟩,h.nodup,fun b o rw e=>h.holds b o rw (hs b _ e),h.drew⟩
theorem Sat.drawn {B:Nat} {w0 w:World} {M:List Nat} {σ:Hp} (h:Sat B w0 M σ w):Sat B w0 M σ { w with drawn:=w.drawn+1 }:=
 ⟨⟨h.below.os,h.below.tape,h.below.output,h.below.size,h.below.block⟩,h.base,h.marks,h.nodup,h.holds,Nat.le_succ_of_le h.drew⟩
theorem Sat.cell {B:Nat} {w0 w:World} {M:List Nat} {σ:Hp} (h:Sat B w0 M σ w) {a:Addr} {v:Value} (hc:σ.cell? a=some v):w.cell? a=some v:=by
 unfold Hp.cell? at hc
 split at hc
 ·rename_i c e f rw hb
  have:=(h.holds _ _ _ hb).1
  unfold World.cell?
  rw [this]
  exact hc
 ·cases hc
def Ss (σ:Hp) (w:World):Prop:=∀ b o rw,σ b=some (o,rw)->w.heap[b]? = some o
theorem Sat.hold {B:Nat} {w0 w:World} {M:List Nat} {σ:Hp} (h:Sat B w0 M σ w):Ss σ w:=fun b o rw e=>(h.holds b o rw e).1
theorem Ss.cell {w:World} {σ:Hp} (h:Ss σ w) {a:Addr} {v:Value} (hc:σ.cell? a=some v):w.cell? a=some v:=by
 unfold Hp.cell? at hc
 split at hc
 ·rename_i c e f rw hb
  have:=h _ _ _ hb
  unfold World.cell?
  rw [this]
  exact hc
 ·cases hc
theorem Sat.new {B:Nat} {w0 w:World} {M:List Nat} {σ:Hp} (h:Sat B w0 M σ w) (o:Obj):
  σ w.heap.size=none/\Sat B w0 M (σ.ins w.heap.size o) { w with heap:=w.heap.push o }:=by
 have hsz:=h.below.size
 have hb:=h.base
 have hno:∀ b x,σ b=some x->b<w.heap.size:=fun b x e=>by
  obtain ⟨o',rw⟩:=x
  have:=(h.holds b o' rw e).1
  rcases Nat.lt_or_ge b w.heap.size with hlt | hge
  ·exact hlt
  ·rw [Array.getElem?_eq_none hge] at this;cases this
 have hlt:∀ m∈M,m<w.heap.size:=fun m hm=>by
  have h1:=(h.marks m hm).1
  rcases Nat.lt_or_ge m w.heap.size with hlt | hge
  ·exact hlt
  ·rw [Array.getElem?_eq_none hge] at h1;cases h1
 refine ⟨?_,?_,h.base,fun m hm=>⟨?_,(h.marks m hm).2.1,?_⟩,h.nodup,?_,h.drew⟩
 ·cases e:σ w.heap.size with
  | none=>rfl
  | some x=>exact absurd (hno _ _ e) (Nat.lt_irrefl _)
 ·refine ⟨h.below.os,h.below.tape,h.below.output,by simp;omega,fun k hk=>?_⟩
  rw [← h.below.block k hk,Array.getElem?_push,if_neg (by omega)]
 ·have h1:=(h.marks m hm).1
  have h2:=hlt m hm
  show (w.heap.push o)[m]? = _
  rw [Array.getElem?_push,if_neg (by omega)]
  exact h1
 ·have h2:=hlt m hm
  unfold Hp.ins
  rw [if_neg (by omega)]
  exact (h.marks m hm).2.2
 ·intro b o' rw e
  unfold Hp.ins at e
  split at e
  ·rename_i hk
   subst hk
   obtain ⟨rfl,rfl⟩:=by simpa using e
   refine ⟨by simp,fun _=>by omega,fun h=>by cases h⟩
  ·have h1:=h.holds b o' rw e
   have h2:=hno _ _ e
   refine ⟨?_,h1.2⟩
   show (w.heap.push o)[b]? = _
   rw [Array.getElem?_push,if_neg (by omega)]
   exact h1.1
theorem Sat.store {B:Nat} {w0 w:World} {M:List Nat} {σ:Hp} (h:Sat B w0 M σ w) {a:Addr} (hw:σ.wr a) (v:Value):
  (∃ u,w.cell? a=some u)/\w.frozen? a=false/\Sat B w0 M (σ.put a v) (w.setCell a v):=by
 obtain ⟨c,e,hb,hlt,hsp⟩:=hw
 obtain ⟨hh,hge,_⟩:=h.holds _ _ _ hb
 have hB:=hge rfl
 refine ⟨?_,?_,?_,h.base,fun m hm=>⟨?_,(h.marks m hm).2.1,?_⟩,h.nodup,?_,by rw [QX];exact h.drew⟩
 ·unfold World.cell?
  rw [hh]
  simp [hsp,hlt]
 ·unfold World.frozen?
  rw [hh]
  simp
 ·exact h.below.setCell hB v
 ·have h1:=(h.marks m hm).1
  rw [Below.heap_setCell _ _ _ _ (fun e=>by rw [e,hh] at h1;cases h1)]
  exact h1
 ·unfold Hp.put
  have h1:=(h.marks m hm).2.2
  rw [if_neg (fun e=>by rw [e,hb] at h1;cases h1)]
  exact h1
 ·intro b o rw eb
  unfold Hp.put at eb
  split at eb
  ·rename_i hk
   subst hk
   rw [hb] at eb
   simp only [Option.some.injEq,Prod.mk.injEq] at eb
   obtain ⟨rfl,rfl⟩:=eb
   refine ⟨?_,fun _=>hB,fun h=>by cases h⟩
   simp [World.setCell,Array.getElem?_modify,hh,hsp]
  ·rename_i hk
   have h1:=h.holds b o rw eb
   refine ⟨?_,h1.2⟩
   rw [Below.heap_setCell _ _ _ _ hk]
   exact h1.1
theorem Sat.setObj {B:Nat} {w0 w:World} {M:List Nat} {σ:Hp} (h:Sat B w0 M σ w) {b:Nat} {o':Obj} (hb:σ b=some (o',true)) (o:Obj):
  Sat B w0 M (σ.ins b o) { w with heap:=w.heap.setIfInBounds b o }:=by
 obtain ⟨hh,hge,_⟩:=h.holds _ _ _ hb
 have hB:=hge rfl
 have hlt:b<w.heap.size:=by
  rcases Nat.lt_or_ge b w.heap.size with hlt | hge
  ·exact hlt
  ·rw [Array.getElem?_eq_none hge] at hh;cases hh
 refine ⟨⟨h.below.os,h.below.tape,h.below.output,by simpa using h.below.size,fun k hk=>?_⟩,h.base,fun m hm=>⟨?_,(h.marks m hm).2.1,?_⟩,h.nodup,?_,h.drew⟩
 ·rw [← h.below.block k hk]
  show (w.heap.setIfInBounds b o)[k]? = _
  rw [Array.getElem?_setIfInBounds_ne (by omega)]
 ·have h1:=(h.marks m hm).1
  show (w.heap.setIfInBounds b o)[m]? = _
  have h2:=(h.marks m hm).2.2
  rw [Array.getElem?_setIfInBounds_ne (fun e=>by rw [← e,hb] at h2;cases h2)]
  exact h1
 ·have h2:=(h.marks m hm).2.2
  unfold Hp.ins
  rw [if_neg (fun e=>by rw [e,hb] at h2;cases h2)]
  exact h2
 ·intro k x rw e
  unfold Hp.ins at e
  split at e
  ·rename_i hk
   subst hk
   obtain ⟨rfl,rfl⟩:=by simpa using e
   exact ⟨by simp [hlt],fun _=>hB,fun h=>by cases h⟩
  ·rename_i hk
   have h1:=h.holds k x rw e
   refine ⟨?_,h1.2⟩
   show (w.heap.setIfInBounds b o)[k]? = _
   rw [Array.getElem?_setIfInBounds_ne (fun e=>hk e.symm)]
   exact h1.1
theorem Sat.fewer {B:Nat} {w0 w:World} {ms M:List Nat} {σ:Hp} (h:Sat B w0 (ms++M) σ w):Sat B w0 M σ w:=
 ⟨h.below,h.base,fun m hm=>h.marks m (List.mem_append_right _ hm),(List.nodup_append.1 h.nodup).2.1,h.holds,h.drew⟩
theorem Sat.mark {B:Nat} {w0 w:World} {M:List Nat} {σ:Hp} (h:Sat B w0 M σ w):Sat B w0 (w.heap.size::M) σ { w with heap:=w.heap.push (.deferred (some [])) }:=by
 obtain ⟨hn,h1⟩:=h.new (.deferred (some []))
 have h2:=h1.sub (Hp.Sub.ins (.deferred (some [])) hn)
 have hsz:=h.below.size
 have hb:=h.base
 refine ⟨h2.below,h2.base,fun m hm=>?_,List.nodup_cons.2 ⟨fun hm=>?_,h.nodup⟩,h2.holds,h.drew⟩
 ·rcases List.mem_cons.1 hm with rfl | hm
  ·exact ⟨by simp,by omega,hn⟩
  ·exact h2.marks m hm
 ·have:=(h.marks _ hm).1
  rw [Array.getElem?_eq_none (Nat.le_refl _)] at this
  cases this
theorem Sat.unmark {B:Nat} {w0 w:World} {m:Nat} {M:List Nat} {σ:Hp} (h:Sat B w0 (m::M) σ w) (o:Obj):Sat B w0 M σ { w with heap:=w.heap.setIfInBounds m o }:=by
 obtain ⟨hh,hge,hno⟩:=h.marks m (List.mem_cons_self ..)
 have hnd:=List.nodup_cons.1 h.nodup
 refine ⟨⟨h.below.os,h.below.tape,h.below.output,by simpa using h.below.size,fun k hk=>?_⟩,h.base,fun k hk=>⟨?_,(h.marks k (List.mem_cons_of_mem _ hk)).2⟩,hnd.2,fun b o' rw e=>⟨?_,(h.holds b o' rw e).2⟩,h.drew⟩
 ·rw [← h.below.block k hk]
  show (w.heap.setIfInBounds m o)[k]? = _
  rw [Array.getElem?_setIfInBounds_ne (by omega)]
 ·show (w.heap.setIfInBounds m o)[k]? = _
  rw [Array.getElem?_setIfInBounds_ne (fun e:m=k=>hnd.1 (by rw [e];exact hk))]
  exact (h.marks k (List.mem_cons_of_mem _ hk)).1
 ·show (w.heap.setIfInBounds m o)[b]? = _
  rw [Array.getElem?_setIfInBounds_ne (fun eb:m=b=>by rw [← eb,hno] at e;cases e)]
  exact (h.holds b o' rw e).1
def swp {α:Type} (P:Program):Sem α->(α->Hp->Prop)->Hp->Prop
 | .pure a,K,σ=>K a σ
 | .load _ a k,K,σ=>∃ v,σ.cell? a=some v/\swp P (k v) K σ
 | .store _ a v k,K,σ=>Gg v=true/\σ.wr a/\swp P k K (σ.put a v)
 | .new o k,K,σ=>∀ b,σ b=none->swp P (k b) K (σ.ins b o)
 | .shape r k,K,σ=>∃ o rw,σ r=some (o,rw)/\swp P (k (Hp.shapeOf o)) K σ
 | .freeze _ _ _,_,_=>False
 | .frozen a k,K,σ=>∃ o rw,σ a.block=some (o,rw)/\swp P (k (Hp.frozenOf o a)) K σ
 | .getObj r k,K,σ=>∃ o rw,σ r=some (o,rw)/\Hp.isCells o=false/\swp P (k o) K σ
 | .setObj r o k,K,σ=>∃ o',σ r=some (o',true)/\Hp.isCells o'=false/\swp P k K (σ.ins r o)
 | .choose q k,K,σ=>∀ t,swp P (k (if q.forced then 0 else q.cut t)) K σ
 | .sys _ _,_,_=>False
 | .program k,K,σ=>swp P (k P) K σ
 | .mark _ k,K,σ=>swp P k K σ
 | .halt _,_,_=>False
theorem ZD {α:Type} {P:Program} {B:Nat} {w0:World} {M:List Nat} (s:Sem α):∀ (K:α->Hp->Prop) (σ:Hp) (w:World),swp P s K σ->Sat B w0 M σ w ->
  ∃ a σ' w',s.run P w=.ok a w'/\K a σ'/\Sat B w0 M σ' w':=by
 induction s with
 | pure a=>intro K σ w h hs;exact ⟨a,σ,w,rfl,h,hs⟩
 | load m a k ih=>
  intro K σ w h hs
  obtain ⟨v,hv,h⟩:=h
  obtain ⟨x,σ',w',hr,hk,hs'⟩:=ih v K σ w h hs
  exact ⟨x,σ',w',by simp only [Sem.run,hs.cell hv];exact hr,hk,hs'⟩
 | store m a v k ih=>
  intro K σ w h hs
  obtain ⟨hone,hw,h⟩:=h
  obtain ⟨⟨u,hu⟩,hf,hs1⟩:=hs.store hw v
  obtain ⟨x,σ',w',hr,hk,hs'⟩:=ih K _ _ h hs1
  refine ⟨x,σ',w',?_,hk,hs'⟩
  cases v<;>first
   | (simp [Gg] at hone;done)
   | (simp only [Sem.run,hu,hf];exact hr)
 | new o k ih=>
  intro K σ w h hs
  obtain ⟨hn,hs1⟩:=hs.new o
  obtain ⟨x,σ',w',hr,hk,hs'⟩:=ih w.heap.size K _ _ (h _ hn) hs1
  exact ⟨x,σ',w',hr,hk,hs'⟩
 | shape r k ih=>
  intro K σ w h hs
  obtain ⟨o,rw,hb,h⟩:=h
  obtain ⟨x,σ',w',hr,hk,hs'⟩:=ih _ K _ _ h hs
  refine ⟨x,σ',w',?_,hk,hs'⟩
  have:w.shape? r=Hp.shapeOf o:=by
   unfold World.shape?;rw [(hs.holds _ _ _ hb).1];cases o<;>rfl
  simp only [Sem.run,this];exact hr
 | freeze a n k ih=>intro K σ w h;exact h.elim
 | frozen a k ih=>
  intro K σ w h hs
  obtain ⟨o,rw,hb,h⟩:=h
  obtain ⟨x,σ',w',hr,hk,hs'⟩:=ih _ K _ _ h hs
  refine ⟨x,σ',w',?_,hk,hs'⟩
  have:w.frozen? a=Hp.frozenOf o a:=by
   unfold World.frozen?;rw [(hs.holds _ _ _ hb).1];cases o<;>rfl
  simp only [Sem.run,this];exact hr
 | getObj r k ih=>
  intro K σ w h hs
  obtain ⟨o,rw,hb,hc,h⟩:=h
  obtain ⟨x,σ',w',hr,hk,hs'⟩:=ih o K _ _ h hs
  refine ⟨x,σ',w',?_,hk,hs'⟩
  have:=(hs.holds _ _ _ hb).1
  cases o<;>first | (simp [Hp.isCells] at hc;done) | (simp only [Sem.run,this];exact hr)
 | setObj r o k ih=>
  intro K σ w h hs
  obtain ⟨o',hb,hc,h⟩:=h
  obtain ⟨x,σ',w',hr,hk,hs'⟩:=ih K _ _ h (hs.setObj hb o)
  refine ⟨x,σ',w',?_,hk,hs'⟩
  have:=(hs.holds _ _ _ hb).1
  cases o'<;>first | (simp [Hp.isCells] at hc;done) | (simp only [Sem.run,this];exact hr)
 | choose q k ih=>
  intro K σ w h hs
  by_cases hq:q.forced=true
  ·have h0:=h 0
   rw [if_pos hq] at h0
   obtain ⟨x,σ',w',hr,hk,hs'⟩:=ih _ K _ _ h0 hs
   exact ⟨x,σ',w',by simp only [Sem.run,hq];exact hr,hk,hs'⟩
  ·have h0:=h (w.tape w.drawn q)
   rw [if_neg hq] at h0
   obtain ⟨x,σ',w',hr,hk,hs'⟩:=ih _ K _ _ h0 hs.drawn
   exact ⟨x,σ',w',by simp only [Sem.run];rw [if_neg hq];exact hr,hk,hs'⟩
 | sys c k ih=>intro K σ w h;exact h.elim
 | program k ih=>
  intro K σ w h hs
  obtain ⟨x,σ',w',hr,hk,hs'⟩:=ih P K _ _ h hs
  exact ⟨x,σ',w',hr,hk,hs'⟩
 | mark m k ih=>
  intro K σ w h hs
  obtain ⟨x,σ',w',hr,hk,hs'⟩:=ih K _ _ h hs
  exact ⟨x,σ',w',hr,hk,hs'⟩
 | halt h=>intro K σ w h;exact h.elim
theorem Ba {α:Type} {P:Program} (s:Sem α):∀ {K K':α->Hp->Prop} (σ:Hp),(∀ a σ,K a σ->K' a σ)->swp P s K σ->swp P s K' σ:=by
 induction s with
 | pure a=>intro K K' σ hk h;exact hk _ _ h
 | load m a k ih=>intro K K' σ hk h;obtain ⟨v,hv,h⟩:=h;exact ⟨v,hv,ih v σ hk h⟩
 | store m a v k ih=>intro K K' σ hk h;exact ⟨h.1,h.2.1,ih _ hk h.2.2⟩
 | new o k ih=>intro K K' σ hk h;exact fun b hb=>ih b _ hk (h b hb)
 | shape r k ih=>intro K K' σ hk h;obtain ⟨o,rw,hb,h⟩:=h;exact ⟨o,rw,hb,ih _ σ hk h⟩
 | freeze a n k ih=>intro K K' σ hk h;exact h.elim
 | frozen a k ih=>intro K K' σ hk h;obtain ⟨o,rw,hb,h⟩:=h;exact ⟨o,rw,hb,ih _ σ hk h⟩
 | getObj r k ih=>intro K K' σ hk h;obtain ⟨o,rw,hb,hc,h⟩:=h;exact ⟨o,rw,hb,hc,ih _ σ hk h⟩
 | setObj r o k ih=>intro K K' σ hk h;obtain ⟨o',hb,hc,h⟩:=h;exact ⟨o',hb,hc,ih _ hk h⟩
 | choose q k ih=>intro K K' σ hk h;exact fun t=>ih _ σ hk (h t)
 | sys c k ih=>intro K K' σ hk h;exact h.elim
 | program k ih=>intro K K' σ hk h;exact ih _ σ hk h
 | mark m k ih=>intro K K' σ hk h;exact ih σ hk h
 | halt h=>intro K K' σ hk h;exact h.elim
theorem Bl {α β:Type} {P:Program} (s:Sem α) (f:α->Sem β) (K:β->Hp->Prop):∀ σ:Hp,swp P s (fun a σ'=>swp P (f a) K σ') σ->swp P (s >>= f) K σ:=by
 show ∀ σ:Hp,_->swp P (s.bind f) K σ
 induction s with
 | pure a=>intro σ h;exact h
 | load m a k ih=>intro σ h;obtain ⟨v,hv,h⟩:=h;exact ⟨v,hv,ih v σ h⟩
 | store m a v k ih=>intro σ h;exact ⟨h.1,h.2.1,ih _ h.2.2⟩
 | new o k ih=>intro σ h;exact fun b hb=>ih b _ (h b hb)
 | shape r k ih=>intro σ h;obtain ⟨o,rw,hb,h⟩:=h;exact ⟨o,rw,hb,ih _ σ h⟩
 | freeze a n k ih=>intro σ h;exact h.elim
 | frozen a k ih=>intro σ h;obtain ⟨o,rw,hb,h⟩:=h;exact ⟨o,rw,hb,ih _ σ h⟩
 | getObj r k ih=>intro σ h;obtain ⟨o,rw,hb,hc,h⟩:=h;exact ⟨o,rw,hb,hc,ih _ σ h⟩
 | setObj r o k ih=>intro σ h;obtain ⟨o',hb,hc,h⟩:=h;exact ⟨o',hb,hc,ih _ h⟩
 | choose q k ih=>intro σ h;exact fun t=>ih _ σ (h t)
 | sys c k ih=>intro σ h;exact h.elim
 | program k ih=>intro σ h;exact ih _ σ h
 | mark m k ih=>intro σ h;exact ih σ h
 | halt h=>intro σ h;exact h.elim
theorem YN {α:Type} {P:Program} (a:α) (K:α->Hp->Prop) (σ:Hp) (h:K a σ):swp P (pure a:Sem α) K σ:=h
def FN (P:Program) (f:FuncId) (args:Array Value) (σ:Hp) (R:Value->Hp->Prop):Prop:=
 ∀ B w0 M w,Sat B w0 M σ w->Calls P f args w fun e w'=>∃ v σ',e=.returned v/\R v σ'/\Sat B w0 M σ' w'
theorem FN.mono {P:Program} {f:FuncId} {args:Array Value} {σ:Hp} {R R':Value->Hp->Prop} (h:FN P f args σ R) (hr:∀ v σ',R v σ'->R' v σ'):FN P f args σ R':=
 fun B w0 M w hs=>(h B w0 M w hs).mono fun _ _ ⟨v,σ',he,hR,hs'⟩=>⟨v,σ',he,hr _ _ hR,hs'⟩
def OF (P:Program) (l:Nat) (args:Array Value) (σ:Hp) (R:Value->Hp->Prop):Prop:=
 ∀ B w0 M w,Sat B w0 M σ w->∃ fn tmps asg bd,(Instr.yield l args).run P w=.ok (.round l fn tmps asg bd) w /\
  RoundIn Fence.wide 0 P l fn tmps asg bd w fun e w'=>∃ v σ',e=.returned v/\R v σ'/\Sat B w0 M σ' w'
theorem OF.mono {P:Program} {l:Nat} {args:Array Value} {σ:Hp} {R R':Value->Hp->Prop} (h:OF P l args σ R) (hr:∀ v σ',R v σ'->R' v σ'):OF P l args σ R':=
 fun B w0 M w hs=>let ⟨fn,tmps,asg,bd,hy,hr'⟩:=h B w0 M w hs
  ⟨fn,tmps,asg,bd,hy,hr'.mono fun _ _ ⟨v,σ',he,hR,hs'⟩=>⟨v,σ',he,hr _ _ hR,hs'⟩⟩
def Ap (P:Program) (g:FuncId):Bool:=
 match P.funcs[g]? with
 | some fn=>fn.body.isSome && !(fn.name == "runtime.NumGoroutine")
 | none=>false
def Wa (a b:Array Value):Array Value:=⟨a.toList++b.toList⟩
def TO (a b c:Array Value):Array Value:=⟨a.toList++(b.toList++c.toList)⟩
def C1 {α β:Type} (f:α->β) (a:Array α):Array β:=⟨a.toList.map f⟩
theorem Sw (a b:Array Value):Wa a b=a++b:=by cases a;cases b;simp [Wa]
theorem Vr (a b c:Array Value):TO a b c=a++b++c:=by cases a;cases b;cases c;simp [TO]
theorem NN {α β:Type} (f:α->β) (a:Array α):C1 f a=a.map f:=by cases a;simp [C1]
def Ra (P:Program) (v:Value) (args:Array Value) (σ:Hp) (R:Value->Hp->Prop):Prop:=
 match v with
 | .func (.func g) first caps=>Ap P g=true/\FN P g (TO first args caps) σ R
 | .func (.yield l) first _=>OF P l (Wa first args) σ R
 | _=>False
def Ta (P:Program) (v:Value) (args:Array Value) (σ:Hp) (R:Value->Hp->Prop):Prop:=
 match v with
 | .func (.func g) first caps=>Ap P g=true/\FN P g (TO first args caps) σ R
 | _=>False
theorem Ta.mono {P:Program} {v:Value} {args:Array Value} {σ:Hp} {R R':Value->Hp->Prop} (h:Ta P v args σ R) (hr:∀ v σ',R v σ'->R' v σ'):Ta P v args σ R':=by
 unfold Ta at h ⊢
 split at h
 ·exact ⟨h.1,h.2.mono hr⟩
 ·exact h
theorem Ra.mono {P:Program} {v:Value} {args:Array Value} {σ:Hp} {R R':Value->Hp->Prop} (h:Ra P v args σ R) (hr:∀ v σ',R v σ'->R' v σ'):Ra P v args σ R':=by
 unfold Ra at h ⊢
 split at h
 ·exact ⟨h.1,h.2.mono hr⟩
 ·exact h.mono hr
 ·exact h
def ywp {α:Type} (P:Program):Sem α->(α->Prop)->Hp->Prop
 | .pure a,K,_=>K a
 | .load _ a k,K,σ=>∃ v,σ.cell? a=some v/\ywp P (k v) K σ
 | .shape r k,K,σ=>∃ o rw,σ r=some (o,rw)/\ywp P (k (Hp.shapeOf o)) K σ
 | .frozen a k,K,σ=>∃ o rw,σ a.block=some (o,rw)/\ywp P (k (Hp.frozenOf o a)) K σ
 | .getObj r k,K,σ=>∃ o rw,σ r=some (o,rw)/\Hp.isCells o=false/\ywp P (k o) K σ
 | .program k,K,σ=>ywp P (k P) K σ
 | .mark _ k,K,σ=>ywp P k K σ
 | _,_,_=>False
theorem Ls {α:Type} {P:Program} (s:Sem α):∀ (K:α->Prop) (σ:Hp),ywp P s K σ ->
  ∃ a,K a/\∀ w,Ss σ w->s.run P w=.ok a w:=by
 induction s with
 | pure a=>intro K σ h;exact ⟨a,h,fun w _=>rfl⟩
 | load m a k ih=>
  intro K σ h
  obtain ⟨v,hv,h⟩:=h
  obtain ⟨x,hk,hr⟩:=ih v K σ h
  exact ⟨x,hk,fun w hs=>by simp only [Sem.run,hs.cell hv];exact hr w hs⟩
 | shape r k ih=>
  intro K σ h
  obtain ⟨o,rw,hb,h⟩:=h
  obtain ⟨x,hk,hr⟩:=ih _ K σ h
  refine ⟨x,hk,fun w hs=>?_⟩
  have:w.shape? r=Hp.shapeOf o:=by
   unfold World.shape?;rw [hs _ _ _ hb];cases o<;>rfl
  simp only [Sem.run,this];exact hr w hs
 | frozen a k ih=>
  intro K σ h
  obtain ⟨o,rw,hb,h⟩:=h
  obtain ⟨x,hk,hr⟩:=ih _ K σ h
  refine ⟨x,hk,fun w hs=>?_⟩
  have:w.frozen? a=Hp.frozenOf o a:=by
   unfold World.frozen?;rw [hs _ _ _ hb];cases o<;>rfl
  simp only [Sem.run,this];exact hr w hs
 | getObj r k ih=>
  intro K σ h
  obtain ⟨o,rw,hb,hc,h⟩:=h
  obtain ⟨x,hk,hr⟩:=ih o K σ h
  refine ⟨x,hk,fun w hs=>?_⟩
  have:=hs _ _ _ hb
  cases o<;>first | (simp [Hp.isCells] at hc;done) | (simp only [Sem.run,this];exact hr w hs)
 | program k ih=>
  intro K σ h
  obtain ⟨x,hk,hr⟩:=ih P K σ h
  exact ⟨x,hk,fun w hs=>hr w hs⟩
 | mark m k ih=>
  intro K σ h
  obtain ⟨x,hk,hr⟩:=ih K σ h
  exact ⟨x,hk,fun w hs=>hr w hs⟩
 | store m a v k ih=>intro K σ h;exact h.elim
 | new o k ih=>intro K σ h;exact h.elim
 | freeze a n k ih=>intro K σ h;exact h.elim
 | setObj r o k ih=>intro K σ h;exact h.elim
 | choose q k ih=>intro K σ h;exact h.elim
 | sys c k ih=>intro K σ h;exact h.elim
 | halt h=>intro K σ h;exact h.elim
theorem AO {α β:Type} {P:Program} (s:Sem α) (f:α->Sem β) (K:β->Prop) (σ:Hp):ywp P s (fun a=>ywp P (f a) K σ) σ->ywp P (s >>= f) K σ:=by
 show _->ywp P (s.bind f) K σ
 induction s with
 | pure a=>intro h;exact h
 | load m a k ih=>intro h;obtain ⟨v,hv,h⟩:=h;exact ⟨v,hv,ih v h⟩
 | shape r k ih=>intro h;obtain ⟨o,rw,hb,h⟩:=h;exact ⟨o,rw,hb,ih _ h⟩
 | frozen a k ih=>intro h;obtain ⟨o,rw,hb,h⟩:=h;exact ⟨o,rw,hb,ih _ h⟩
 | getObj r k ih=>intro h;obtain ⟨o,rw,hb,hc,h⟩:=h;exact ⟨o,rw,hb,hc,ih _ h⟩
 | program k ih=>intro h;exact ih _ h
 | mark m k ih=>intro h;exact ih h
 | store m a v k ih=>intro h;exact h.elim
 | new o k ih=>intro h;exact h.elim
 | freeze a n k ih=>intro h;exact h.elim
 | setObj r o k ih=>intro h;exact h.elim
 | choose q k ih=>intro h;exact h.elim
 | sys c k ih=>intro h;exact h.elim
 | halt h=>intro h;exact h.elim
theorem Cq {α:Type} {P:Program} (s:Sem α) {K K':α->Prop} (σ:Hp) (hk:∀ a,K a->K' a):ywp P s K σ->ywp P s K' σ:=by
 induction s with
 | pure a=>intro h;exact hk _ h
 | load m a k ih=>intro h;obtain ⟨v,hv,h⟩:=h;exact ⟨v,hv,ih v h⟩
 | shape r k ih=>intro h;obtain ⟨o,rw,hb,h⟩:=h;exact ⟨o,rw,hb,ih _ h⟩
 | frozen a k ih=>intro h;obtain ⟨o,rw,hb,h⟩:=h;exact ⟨o,rw,hb,ih _ h⟩
 | getObj r k ih=>intro h;obtain ⟨o,rw,hb,hc,h⟩:=h;exact ⟨o,rw,hb,hc,ih _ h⟩
 | program k ih=>intro h;exact ih _ h
 | mark m k ih=>intro h;exact ih h
 | store m a v k ih=>intro h;exact h.elim
 | new o k ih=>intro h;exact h.elim
 | freeze a n k ih=>intro h;exact h.elim
 | setObj r o k ih=>intro h;exact h.elim
 | choose q k ih=>intro h;exact h.elim
 | sys c k ih=>intro h;exact h.elim
 | halt h=>intro h;exact h.elim
inductive Sh where
 | bool | int (k:IntKind) | str | ptr | slc | mp | any
def RQ (P:Program) (t:TypeId):Sh:=
 match P.underlying t with
 | some .bool=>.bool
 | some (.int k)=>.int k
 | some .string=>.str
 | some (.pointer _)=>.ptr
 | some (.slice _)=>.slc
 | some (.map _ _)=>.mp
 | _=>.any
def GT (P:Program) (t:TypeId):Bool:=
 match P.underlying t with
 | some (.struct _)=>true
 | some (.array _ _)=>true
 | _=>false
def Bi (P:Program):Nat->TypeId->List Sh
 | 0,_=>[]
 | d+1,t=>
  match P.underlying t with
  | some (.struct fs)=>fs.toList.flatMap fun f=>Bi P d f.type
  | some (.array n e)=>(List.replicate n (Bi P d e)).flatten
  | _=>[RQ P t]
def dr (p:aA) (k:Nat->Nat->Prop):Prop:=
 match p with
 | some ⟨b,off,none⟩=>k b off
 | _=>False
theorem Jt {p:aA} {k:Nat->Nat->Prop}:dr p k↔∃ b off,p=some ⟨b,off,none⟩/\k b off:=by
 unfold dr
 split
 ·exact ⟨fun h=>⟨_,_,rfl,h⟩,fun ⟨b,off,e,h⟩=>by cases e;exact h⟩
 ·rename_i hn
  exact ⟨fun h=>h.elim,fun ⟨b,off,e,h⟩=>(hn b off e).elim⟩
theorem Hb {p:aA} {k:Nat->Nat->Prop} (h:dr p k):∃ b off,p=some ⟨b,off,none⟩/\k b off:=Jt.1 h
def lf (σ:Hp) (s:Sh) (b off:Nat) (k:Value->Prop):Prop:=
 match s with
 | .bool=>∃ x,σ.cell? ⟨b,off,none⟩=some (.bool x)/\k (.bool x)
 | .int ik=>∃ n,σ.cell? ⟨b,off,none⟩=some (.int ik n)/\k (.int ik n)
 | .str=>∃ x,σ.cell? ⟨b,off,none⟩=some (.string x)/\k (.string x)
 | .ptr=>∃ p,σ.cell? ⟨b,off,none⟩=some (.pointer p)/\k (.pointer p)
 | .slc=>∃ A n c,σ.cell? ⟨b,off,none⟩=some (.slice A n c)/\k (.slice A n c)
 | .mp=>∃ r,σ.cell? ⟨b,off,none⟩=some (.map r)/\k (.map r)
 | .any=>∃ v,σ.cell? ⟨b,off,none⟩=some v/\k v
def lv (o:Option Value) (s:Sh) (k:Value->Prop):Prop:=
 match s with
 | .bool=>∃ x,o=some (.bool x)/\k (.bool x)
 | .int ik=>∃ n,o=some (.int ik n)/\k (.int ik n)
 | .str=>∃ x,o=some (.string x)/\k (.string x)
 | .ptr=>∃ p,o=some (.pointer p)/\k (.pointer p)
 | .slc=>∃ A n c,o=some (.slice A n c)/\k (.slice A n c)
 | .mp=>∃ r,o=some (.map r)/\k (.map r)
 | .any=>∃ v,o=some v/\k v
theorem Y6 {o:Option Value} {s:Sh} {k:Value->Prop} (h:lv o s k):∃ v,o=some v/\k v:=by
 cases s<;>simp only [lv] at h
 all_goals first
  | (obtain ⟨x,h1,h2⟩:=h;exact ⟨_,h1,h2⟩)
  | (obtain ⟨A,n,c,h1,h2⟩:=h;exact ⟨_,h1,h2⟩)
theorem Zs {o:Option Value} {s:Sh} {k k':Value->Prop} (hk:∀ v,k v->k' v) (h:lv o s k):lv o s k':=by
 cases s<;>simp only [lv] at h ⊢
 all_goals first
  | (obtain ⟨x,h1,h2⟩:=h;exact ⟨_,h1,hk _ h2⟩)
  | (obtain ⟨A,n,c,h1,h2⟩:=h;exact ⟨_,_,_,h1,hk _ h2⟩)
def lfs (σ:Hp):List Sh->Nat->Nat->Nat->(List Value->Prop)->Prop
 | [],_,_,_,k=>k []
 | s::ss,b,off,i,k=>lf σ s b (off+i) fun v=>lfs σ ss b off (i+1) fun vs=>k (v::vs)
theorem Vx {σ:Hp} {s:Sh} {b off:Nat} {k:Value->Prop} (h:lf σ s b off k):∃ v,σ.cell? ⟨b,off,none⟩=some v/\k v:=by
 cases s<;>simp only [lf] at h
 all_goals first
  | (obtain ⟨x,h1,h2⟩:=h;exact ⟨_,h1,h2⟩)
  | (obtain ⟨A,n,c,h1,h2⟩:=h;exact ⟨_,h1,h2⟩)
theorem Du (b off i:Nat):(⟨b,off,none⟩:Addr).add i=⟨b,off+i,none⟩:=by
 unfold Addr.add
 split
 ·rename_i h;subst h;rfl
 ·rfl
theorem Rb {P:Program} {σ:Hp} {b off:Nat} {K:Array Value->Prop} (ss:List Sh):∀ (i:Nat) (acc:Array Value) (k:List Value->Prop),
  lfs σ ss b off i k->(∀ vs:List Value,k vs->K (acc++vs.toArray))->ywp P (loadCellsFrom ⟨b,off,none⟩ i ss.length acc) K σ:=by
 induction ss with
 | nil=>intro i acc k h hk;exact (show K acc from by simpa using hk [] h)
 | cons s ss ih=>
  intro i acc k h hk
  obtain ⟨v,hv,h⟩:=Vx h
  refine ⟨v,?_,?_⟩
  ·rw [Du];exact hv
  ·refine ih (i+1) (acc.push v) _ h fun vs hvs=>?_
   have:=hk _ hvs
   simpa using this
def tyL:List Sh->(List Value->Prop)->Prop
 | [],k=>k []
 | .bool::ss,k=>∃ x,tyL ss fun vs=>k (.bool x::vs)
 | .int ik::ss,k=>∃ n,tyL ss fun vs=>k (.int ik n::vs)
 | .str::ss,k=>∃ x,tyL ss fun vs=>k (.string x::vs)
 | .ptr::ss,k=>∃ p,tyL ss fun vs=>k (.pointer p::vs)
 | .slc::ss,k=>∃ A n c,tyL ss fun vs=>k (.slice A n c::vs)
 | .mp::ss,k=>∃ r,tyL ss fun vs=>k (.map r::vs)
 | .any::ss,k=>∃ v,tyL ss fun vs=>k (v::vs)
theorem SI:∀ {ss:List Sh} {k:List Value->Prop},tyL ss k->∃ vs,k vs:=by
 intro ss
 induction ss with
 | nil=>intro k h;exact ⟨_,h⟩
 | cons s ss ih=>
  intro k h
  cases s<;>simp only [tyL] at h
  all_goals first
   | (obtain ⟨x,h⟩:=h;obtain ⟨vs,h⟩:=ih h;exact ⟨_,h⟩)
   | (obtain ⟨A,n,c,h⟩:=h;obtain ⟨vs,h⟩:=ih h;exact ⟨_,h⟩)
def tyC (P:Program) (t:TypeId) (k:Value->Prop):Prop:=
 tyL (Bi P 8 t) fun vs=>if GT P t then k (.agg vs.toArray) else k (vs.headD undef)
def tyT (P:Program):List TypeId->(List Value->Prop)->Prop
 | [],k=>k []
 | t::ts,k=>tyC P t fun v=>tyT P ts fun vs=>k (v::vs)
theorem TA {P:Program} {t:TypeId} {k:Value->Prop} (h:tyC P t k):∃ v,k v:=by
 obtain ⟨vs,h⟩:=SI h
 split at h<;>exact ⟨_,h⟩
theorem ST {P:Program}:∀ {ts:List TypeId} {k:List Value->Prop},tyT P ts k->∃ vs,k vs:=by
 intro ts
 induction ts with
 | nil=>intro k h;exact ⟨_,h⟩
 | cons t ts ih=>
  intro k h
  obtain ⟨v,h⟩:=TA h
  obtain ⟨vs,h⟩:=ih h
  exact ⟨_,h⟩
def tyV (P:Program) (t:TypeId) (v:Value) (k:Value->Prop):Prop:=
 match ((P.info? t).map (·.desc):Option TypeDesc) with
 | some (.tuple ts)=>if ts.size=0 then k v else tyT P ts.toList fun vs=>v=.tuple vs.toArray/\k (.tuple vs.toArray)
 | _=>tyC P t fun u=>v=u/\k u
theorem QE {P:Program} {t:TypeId} {v:Value} {k:Value->Prop} (h:tyV P t v k):k v:=by
 unfold tyV at h
 split at h
 ·split at h
  ·exact h
  ·obtain ⟨vs,hv,hk⟩:=ST h;rw [hv];exact hk
 ·obtain ⟨u,hv,hk⟩:=TA h;rw [hv];exact hk
abbrev wr (n:Int):Int:=IntKind.i64.wrap n
def Rv (P:Program) (t:TypeId) (cs:Array Value) (off:Nat):Option Value:=
 match P.info? t,P.underlying t,GT P t with
 | some i,some _,true=>some (.agg (cs.extract off (off+i.size)))
 | some _,some _,false=>cs[off]?
 | _,_,_=>none
def ZS (P:Program) (e:TypeId->Value->Value->Option Bool) (xs ys:Array Value):List Field->Option Bool
 | []=>some true
 | f::fs=>match f.name == "_", Rv P f.type xs f.offset,Rv P f.type ys f.offset with
  | false,some a,some b=>match e f.type a b with
   | some r=>match fs with
    | []=>some r
    | g::gs=>match ZS P e xs ys (g::gs) with
     | some s=>some (r&&s)
     | none=>none
   | none=>none
  | _,_,_=>none
def QH:IntKind->IntKind->Bool
 | .i8,.i8=>true | .i16,.i16=>true | .i32,.i32=>true | .i64,.i64=>true
 | .u8,.u8=>true | .u16,.u16=>true | .u32,.u32=>true | .u64,.u64=>true
 | _,_=>false
theorem H7 {a b:IntKind} (h:QH a b=true):a=b:=by cases a<;>cases b<;>first | rfl | cases h
def ZQ (P:Program) (f:Value->Value->Option Bool) (e:TypeId) (c:Nat) (xs ys:Array Value):List Nat->Option Bool
 | []=>some true
 | i::is=>match Rv P e xs (i*c),Rv P e ys (i*c) with
  | some a,some b=>match f a b with
   | some r=>match is with
    | []=>some r
    | j::js=>match ZQ P f e c xs ys (j::js) with
     | some s=>some (r&&s)
     | none=>none
   | none=>none
  | _,_=>none
def eqT (P:Program):Nat->TypeId->Value->Value->Option Bool
 | 0,_,_,_=>none
 | n+1,t,x,y=>match P.underlying t,x,y with
  | some .bool,.bool a,.bool b=>some (a==b)
  | some (.int _),.int k a,.int k' b=>match QH k k' with
   | true=>some (decide (a=b))
   | false=>none
  | some .string,.string a,.string b=>some (a==b)
  | some (.struct fs),.agg xs,.agg ys=>match P.stoodInHeld t with
   | false=>ZS P (eqT P n) xs ys fs.toList
   | true=>none
  | some (.array m e),.agg xs,.agg ys=>match P.info? e with
   | some _=>ZQ P (eqT P n e) e (P.cellsOf e) xs ys (List.range m)
   | none=>none
  | _,_,_=>none
def Qe (P:Program) (op:BinOp) (t:TypeId) (x y:Value) (k:Value->Prop):Prop:=
 match x,y with
 | .int kx a,.int ky b=>
  if kx=ky then
   match op with
   | .add=>k (.int kx (kx.wrap (a+b)))
   | .sub=>k (.int kx (kx.wrap (a-b)))
   | .mul=>k (.int kx (kx.wrap (a*b)))
   | .quo=>b≠0/\k (.int kx (kx.wrap (a.tdiv b)))
   | .rem=>b≠0/\k (.int kx (a.tmod b))
   | .eql=>k (.bool (decide (a=b)))
   | .neq=>k (.bool (!decide (a=b)))
   | .lss=>k (.bool (decide (a<b)))
   | .leq=>k (.bool (decide (a<=b)))
   | .gtr=>k (.bool (decide (b<a)))
   | .geq=>k (.bool (decide (b<=a)))
   | .and=>k (.int kx (kx.wrap (BitVec.ofInt kx.bits a &&& BitVec.ofInt kx.bits b).toNat))
   | .or=>k (.int kx (kx.wrap (BitVec.ofInt kx.bits a ||| BitVec.ofInt kx.bits b).toNat))
   | .xor=>k (.int kx (kx.wrap (BitVec.ofInt kx.bits a ^^^ BitVec.ofInt kx.bits b).toNat))
   | .andNot=>k (.int kx (kx.wrap (BitVec.ofInt kx.bits a &&& ~~~ BitVec.ofInt kx.bits b).toNat))
   | .shl=>0<=b/\k (.int kx (kx.wrap (a*2^min b.toNat kx.bits)))
   | .shr=>0<=b/\k (.int kx (a.fdiv (2^min b.toNat kx.bits)))
  else
   match op with
   | .shl=>0<=b/\k (.int kx (kx.wrap (a*2^min b.toNat kx.bits)))
   | .shr=>0<=b/\k (.int kx (a.fdiv (2^min b.toNat kx.bits)))
   | _=>False
 | .bool a,.bool b=>
  match op,P.underlying t with
  | .eql,some .bool=>k (.bool (a==b))
  | .neq,some .bool=>k (.bool (!(a==b)))
  | _,_=>False
 | .slice A _ _,.slice none 0 0=>
  match op,P.underlying t with
  | .eql,some (.slice _)=>k (.bool A.isNone)
  | .neq,some (.slice _)=>k (.bool (!A.isNone))
  | _,_=>False
 | .agg xs,.agg ys=>
  match op,P.eqGuardType P.depth t,eqT P 8 t (.agg xs) (.agg ys) with
  | .eql,false,some r=>k (.bool r)
  | .neq,false,some r=>k (.bool (!r))
  | _,_,_=>False
 | _,_=>False
def TC (k:IntKind):Int->List Value->Option Value
 | a,[]=>some (.int k a)
 | a,.int _ b::rest=>TC k (if b<a then b else a) rest
 | _,_=>none
def SU (k:IntKind):Int->List Value->Option Value
 | a,[]=>some (.int k a)
 | a,.int _ b::rest=>SU k (if b>a then b else a) rest
 | _,_=>none
def Z9:List Value->Option Value
 | .int k a::rest=>TC k a rest
 | _=>none
def Aa8:List Value->Option Value
 | .int k a::rest=>SU k a rest
 | _=>none
def Lo (P:Program) (s:TypeId) (f:Nat):Option (Nat×Nat×TypeId):=
 match P.underlying s with
 | some (.struct fs)=>match fs[f]? with
  | some fd=>match P.info? fd.type with
   | some i=>some (fd.offset,i.size,fd.type)
   | none=>none
  | none=>none
 | _=>none
def ofs (off n:Nat):Nat:=match n with | 0=>off | n+1=>off+(n+1)
def KU (i sz:Nat):Nat:=match sz with | 1=>i | s=>i*s
theorem KY (off n:Nat):ofs off n=off+n:=by cases n<;>rfl
theorem Ce (i sz:Nat):KU i sz=i*sz:=by unfold KU;split<;>simp
def Hm:Op->Bool
 | .move _ | .assign _ | .pick .. | .nilCheck _ | .fieldAddr .. | .load .. | .field .. | .indexAddr .. | .index .. | .binOp .. | .unOp .. | .convert .. | .build .. | .extract ..
 | .makeFunc .. | .makeInterface .. | .slice ..=>true
 | .call { callee:=.builtin .len,.. } | .call { callee:=.builtin .cap,.. } | .call { callee:=.builtin .min,.. } | .call { callee:=.builtin .max,.. }=>true
 | _=>false
def lY (P:Program) (o:Op) (ρ:Operand->Value) (σ:Hp) (k:Value->Prop):Prop:=
 match o with
 | .move x=>k (ρ x)
 | .assign x=>k (ρ x)
 | .pick c a b=>match ρ c with
  | .bool true=>k (ρ a)
  | .bool false=>k (ρ b)
  | _=>False
 | .nilCheck x=>match ρ x with
  | .pointer p=>dr p fun b off=>k (.pointer (some ⟨b,off,none⟩))
  | .func (.func g) first caps=>k (.func (.func g) first caps)
  | _=>False
 | .fieldAddr s x f=>match Lo P s f with
  | some (o,_+1,_)=>match ρ x with
   | .pointer p=>dr p fun b off=>k (.pointer (some ⟨b,ofs off o,none⟩))
   | _=>False
  | _=>False
 | .load t x=>match ρ x with
  | .pointer p=>dr p fun b off=>
   match GT P t with
   | true=>match (Bi P 8 t).length==P.cellsOf t with
    | true=>lfs σ (Bi P 8 t) b off 0 fun vs=>k (.agg vs.toArray)
    | false=>False
   | false=>match P.underlying t with
    | some _=>lf σ (RQ P t) b off k
    | none=>False
  | _=>False
 | .field t x f=>match Lo P t f with
  | some (o,n,u)=>match ρ x with
   | .agg cs=>match GT P u with
    | true=>k (.agg (cs.extract o (o+n)))
    | false=>match P.underlying u,cs[o]? with
     | some _,some v=>k v
     | _,_=>False
   | _=>False
  | none=>False
 | .indexAddr t x i=>match P.underlying t with
  | some (.slice e)=>match P.info? e,ρ x,ρ i with
   | some ie,.slice A n _,.int _ z=>dr A fun b off=>0<=z/\z<n/\k (.pointer (some ⟨b,off+KU z.toNat ie.size,none⟩))
   | _,_,_=>False
  | some (.array (n+1) e)=>match P.info? e,ρ x,ρ i with
   | some ie,.pointer p,.int _ z=>dr p fun b off=>0<=z/\z<(n+1:Nat)/\k (.pointer (some ⟨b,off+KU z.toNat ie.size,none⟩))
   | _,_,_=>False
  | _=>False
 | .index t x i=>match P.underlying t with
  | some (.array n e)=>match P.info? e,GT P e,P.underlying e,ρ x,ρ i with
   | some ie,false,some _,.agg cs,.int _ z=>0<=z/\z<n/\lv (cs[z.toNat*ie.size]?) (RQ P e) k
   | _,_,_,_,_=>False
  | _=>False
 | .binOp op t x y _=>Qe P op t (ρ x) (ρ y) k
 | .unOp .not _ x=>match ρ x with
  | .bool b=>k (.bool (!b))
  | _=>False
 | .unOp .neg _ x=>match ρ x with
  | .int ik n=>k (.int ik (ik.wrap (0-n)))
  | _=>False
 | .convert s d x=>match P.underlying s,P.underlying d,ρ x with
  | some _,some (.int ik),.int _ n=>k (.int ik (ik.wrap n))
  | _,_,_=>False
 | .build t parts=>match P.built t (parts.toList.map fun (i,x)=>(i,ρ x)) with
  | some cs=>k (.agg cs)
  | none=>False
 | .extract x i=>match ρ x with
  | .tuple vs=>match vs[i]? with
   | some v=>k v
   | none=>False
  | _=>False
 | .makeFunc fn first caps=>k (.func fn (C1 ρ first) (C1 ρ caps))
 | .makeInterface t x=>match P.underlying t with
  | some (.interface _)=>False
  | some _=>k (.iface t (ρ x))
  | none=>False
 | .slice t x lo hi none=>match P.underlying t with
  | some (.slice e)=>match P.info? e,ρ x with
   | some ie,.slice A n c=>
    match lo.map ρ,hi.map ρ with
    | none,none=>k (.slice A n c)
    | some (.int _ l),none=>0<=l/\l<=n/\k (.slice (if c=l.toNat then A else A.map (·.add (l.toNat*ie.size))) (n-l.toNat) (c-l.toNat))
    | none,some (.int _ h)=>0<=h/\h<=c/\k (.slice A h.toNat c)
    | some (.int _ l),some (.int _ h)=>0<=l/\l<=h/\h<=c/\k (.slice (if c=l.toNat then A else A.map (·.add (l.toNat*ie.size))) (h.toNat-l.toNat) (c-l.toNat))
    | _,_=>False
   | _,_=>False
  | _=>False
 | .call { callee:=.builtin .len,args,argTypes }=>match args.toList,argTypes.toList with
  | [x],[t]=>match P.underlying t,ρ x with
   | some (.slice _),.slice _ n _=>k (.int .i64 n)
   | some (.array n _),_=>k (.int .i64 n)
   | some .string,.string s=>k (.int .i64 s.size)
   | _,_=>False
  | _,_=>False
 | .call { callee:=.builtin .cap,args,argTypes }=>match args.toList,argTypes.toList with
  | [x],[t]=>match P.underlying t,ρ x with
   | some (.slice _),.slice _ _ c=>k (.int .i64 c)
   | _,_=>False
  | _,_=>False
 | .call { callee:=.builtin .min,args,.. }=>match Z9 (args.toList.map ρ) with
  | some v=>k v
  | none=>False
 | .call { callee:=.builtin .max,args,.. }=>match Aa8 (args.toList.map ρ) with
  | some v=>k v
  | none=>False
 | _=>False
theorem BI {P:Program} {α:Type} {σ:Hp} {t:TypeId} {d:TypeDesc} {f:TypeDesc->Sem α} {K:α->Prop} (h:P.underlying t=some d) (hk:ywp P (f d) K σ):ywp P (underlying t >>= f) K σ:=by
 refine AO _ _ _ _ ?_
 refine AO (P:=P) program _ _ _ ?_
 show ywp P (match P.underlying t with | some d=>pure d | none=>stuck "no such type") _ _
 rw [h]
 exact hk
theorem El {P:Program} {α:Type} {σ:Hp} {t:TypeId} {f:Nat->Sem α} {K:α->Prop} {i:TypeInfo} (h:P.info? t=some i) (hk:ywp P (f i.size) K σ):ywp P (sizeOf t >>= f) K σ:=by
 refine AO _ _ _ _ ?_
 refine AO (P:=P) (typeInfo t) _ _ _ ?_
 refine AO (P:=P) program _ _ _ ?_
 show ywp P (match P.info? t with | some i=>pure i | none=>stuck "no such type") _ _
 rw [h]
 exact hk
theorem Tv {P:Program} {t:TypeId} {d:TypeDesc} (h:P.underlying t=some d):∃ i,P.info? t=some i:=by
 unfold Program.underlying at h
 cases e:P.info? t with
 | none=>rw [e] at h;cases h
 | some i=>exact ⟨i,rfl⟩
theorem M1 {P:Program} {t:TypeId} {i:TypeInfo} (h:P.info? t=some i):P.cellsOf t=i.size:=by
 simp [Program.cellsOf,h]
theorem Gn {P:Program} {α:Type} {σ:Hp} {t:TypeId} {f:Bool->Sem α} {K:α->Prop} {d:TypeDesc} (h:P.underlying t=some d) (hk:ywp P (f (GT P t)) K σ):ywp P (isAgg t >>= f) K σ:=by
 refine AO _ _ _ _ ?_
 unfold isAgg
 refine BI h ?_
 unfold GT at hk
 rw [h] at hk
 cases d<;>exact hk
def YV (k:Value->Prop):Next->Prop:=fun nx=>∃ v,nx=.value v/\k v
theorem Hh {P:Program} {σ:Hp} {s:Sem Value} {k:Value->Prop} (h:ywp P s k σ):ywp P (do pure (.value (← s)):Sem Next) (YV k) σ:=
 AO _ _ _ _ (Cq s σ (fun v hv=>⟨v,rfl,hv⟩) h)
section
variable {P:Program} {σ σ':Hp} {k:Value->Prop}
theorem Ut {op:BinOp} {t:TypeId} {x y:Operand} {vx vy:Value} (hna:∀ xs ys,vx=.agg xs->vy≠.agg ys) (h:Qe P op t vx vy k):
  ywp P (do eqGuard op t x y vx vy;binOp op t vx vy) k σ:=by
 unfold Qe at h
 split at h
 ·rename_i kx a ky b
  split at h
  ·rename_i hk
   subst hk
   have key:∀ v:Value,k v->binOp op t (.int kx a) (.int kx b)=pure v->ywp P (do eqGuard op t x y (.int kx a) (.int kx b);binOp op t (.int kx a) (.int kx b)) k σ:=by
    intro v hv he
    refine AO _ _ _ _ ?_
    rw [he]
    unfold eqGuard
    split<;>exact hv
   cases op<;>simp only at h
   case add=>exact key _ h (by simp [binOp,Op.intArith])
   case sub=>exact key _ h (by simp [binOp,Op.intArith])
   case mul=>exact key _ h (by simp [binOp,Op.intArith])
   case quo=>exact key _ h.2 (by simp [binOp,Op.intDiv,h.1])
   case rem=>exact key _ h.2 (by simp [binOp,Op.intDiv,h.1])
   case eql=>exact key _ h (by simp [binOp,Op.intCmp];rfl)
   case neq=>exact key _ h (by simp [binOp,Op.intCmp];rfl)
   case lss=>exact key _ h (by simp [binOp,Op.intCmp])
   case leq=>exact key _ h (by simp [binOp,Op.intCmp])
   case gtr=>exact key _ h (by simp [binOp,Op.intCmp])
   case geq=>exact key _ h (by simp [binOp,Op.intCmp])
   case shl=>exact key _ h.2 (by have:=h.1;simp only [binOp,Op.shift];rw [if_neg (by omega)])
   case shr=>exact key _ h.2 (by have:=h.1;simp only [binOp,Op.shift];rw [if_neg (by omega)])
   case and=>exact key _ h (by simp [binOp,Op.intBits])
   case or=>exact key _ h (by simp [binOp,Op.intBits])
   case xor=>exact key _ h (by simp [binOp,Op.intBits])
   case andNot=>exact key _ h (by simp [binOp,Op.intBits])
  ·have key:∀ v:Value,k v->binOp op t (.int kx a) (.int ky b)=pure v->ywp P (do eqGuard op t x y (.int kx a) (.int ky b);binOp op t (.int kx a) (.int ky b)) k σ:=by
    intro v hv he
    refine AO _ _ _ _ ?_
    rw [he]
    unfold eqGuard
    split<;>exact hv
   cases op<;>simp only at h
   case shl=>exact key _ h.2 (by have:=h.1;simp only [binOp,Op.shift];rw [if_neg (by omega)])
   case shr=>exact key _ h.2 (by have:=h.1;simp only [binOp,Op.shift];rw [if_neg (by omega)])
 ·rename_i a b
  split at h<;>first | exact h.elim | skip
  ·rename_i hu
   refine AO _ _ _ _ ?_
   show ywp P (binOp .eql t (.bool a) (.bool b)) k σ
   show ywp P (do pure (.bool (← Op.equal t (.bool a) (.bool b)))) k σ
   refine AO _ _ _ _ ?_
   show ywp P (Op.equalIn (9999+1) t (.bool a) (.bool b)) _ σ
   unfold Op.equalIn
   exact BI hu h
  ·rename_i hu
   refine AO _ _ _ _ ?_
   show ywp P (binOp .neq t (.bool a) (.bool b)) k σ
   show ywp P (do pure (.bool (!(← Op.equal t (.bool a) (.bool b))))) k σ
   refine AO _ _ _ _ ?_
   show ywp P (Op.equalIn (9999+1) t (.bool a) (.bool b)) _ σ
   unfold Op.equalIn
   exact BI hu h
 ·rename_i A n c
  split at h<;>first | exact h.elim | skip
  ·rename_i hu
   refine AO _ _ _ _ ?_
   show ywp P (binOp .eql t (.slice A n c) (.slice none 0 0)) k σ
   show ywp P (do pure (.bool (← Op.equal t (.slice A n c) (.slice none 0 0)))) k σ
   refine AO _ _ _ _ ?_
   show ywp P (Op.equalIn (9999+1) t (.slice A n c) (.slice none 0 0)) _ σ
   unfold Op.equalIn
   refine BI hu ?_
   cases A<;>exact h
  ·rename_i hu
   refine AO _ _ _ _ ?_
   show ywp P (binOp .neq t (.slice A n c) (.slice none 0 0)) k σ
   show ywp P (do pure (.bool (!(← Op.equal t (.slice A n c) (.slice none 0 0))))) k σ
   refine AO _ _ _ _ ?_
   show ywp P (Op.equalIn (9999+1) t (.slice A n c) (.slice none 0 0)) _ σ
   unfold Op.equalIn
   refine BI hu ?_
   cases A<;>exact h
 ·rename_i xs ys
  exact absurd rfl (hna xs ys rfl)
 ·exact h.elim
theorem Lq {t:TypeId} {cs:Array Value} {off:Nat} {v:Value} (h:Rv P t cs off=some v) (w:World):(part t cs off).run P w=.ok v w:=by
 unfold Rv at h
 split at h
 ·rename_i i d hi hd ha
  simp only [Option.some.injEq] at h
  subst h
  have:ywp P (part t cs off) (fun v=>v=.agg (cs.extract off (off+i.size))) (fun _=>none):=by
   unfold part
   refine Gn hd ?_
   rw [ha]
   refine AO _ _ _ _ ?_
   refine AO (P:=P) (typeInfo t) _ _ _ ?_
   refine AO (P:=P) program _ _ _ ?_
   show ywp P (match P.info? t with | some i=>pure i | none=>stuck "no such type") _ _
   rw [hi]
   exact rfl
  obtain ⟨u,rfl,hr⟩:=Ls _ _ _ this
  exact hr w (fun b o rw e=>by cases e)
 ·rename_i i d hi hd ha
  have:ywp P (part t cs off) (fun u=>u=v) (fun _=>none):=by
   unfold part
   refine Gn hd ?_
   rw [ha]
   show ywp P (match cs[off]? with | some v=>pure v | none=>stuck "part: no such cell") _ _
   rw [h]
   exact rfl
  obtain ⟨u,rfl,hr⟩:=Ls _ _ _ this
  exact hr w (fun b o rw e=>by cases e)
 ·cases h
theorem Ve:∀ (n d:Nat) (t:TypeId) (x y:Value) (r:Bool),eqT P n t x y=some r->∀ w:World,(Op.equalIn (d+n) t x y).run P w=.ok r w:=by
 intro n
 induction n with
 | zero=>intro d t x y r h;cases h
 | succ n ih=>
  intro d t x y r h w
  simp only [eqT] at h
  have e1:d+(n+1)=(d+n)+1:=by omega
  rw [e1]
  split at h<;>first | cases h | skip
  ·rename_i a b hu
   rw [run_equalIn_bool' w _ _ _ _ hu]
  ·rename_i k0 k a k' b hu
   split at h<;>first | cases h | skip
   rename_i hk
   obtain rfl:=H7 hk
   rw [run_equalIn_int w _ _ _ _ _ _ hu]
   rfl
  ·rename_i a b hu
   rw [run_equalIn_string w _ _ _ _ hu,beq_toListBytes]
  ·rename_i fs xs ys hu
   split at h<;>first | cases h | skip
   rename_i hp
   have hfs:P.underlying t=some (.struct (P.fieldsOf t)):=by simp [Program.fieldsOf,hu]
   have hff:P.fieldsOf t=fs:=by simp [Program.fieldsOf,hu]
   rw [run_equalIn_struct w _ _ _ _ hfs hp,hff]
   clear hfs hff hu
   generalize fs.toList=l at h
   induction l generalizing r with
   | nil=>simp only [ZS,Option.some.injEq] at h;subst h;rfl
   | cons f l ihl=>
    rw [ZS] at h
    split at h<;>first | cases h | skip
    rename_i a b hn ha hb
    have hn':f.name ≠ "_" := by simpa using hn
    simp only [Op.eqFields,hn',ne_eq,not_false_eq_true,if_true]
    split at h<;>first | cases h | skip
    rename_i r1 hr1
    simp only [Sem.run_bind,Lq ha,Lq hb,Result.andThen_ok,ih d _ _ _ _ hr1 w]
    cases l with
    | nil=>
     simp only [Option.some.injEq] at h
     subst h
     cases r1<;>rfl
    | cons g gs=>
     simp only at h
     split at h<;>first | cases h | skip
     rename_i r2 hr2
     have h2:=ihl r2 hr2
     cases r1
     ·rfl
     ·simp only [Bool.not_true,Bool.false_eq_true,if_false]
      rw [h2]
      rfl
  ·rename_i m e xs ys hu
   split at h<;>first | cases h | skip
   rename_i i hi
   rw [run_equalIn_array w (d+n) xs ys hu hi]
   clear hu
   generalize List.range m=is at h ⊢
   induction is generalizing r with
   | nil=>simp only [ZQ,Option.some.injEq] at h;subst h;rfl
   | cons j is ihl=>
    rw [ZQ] at h
    split at h<;>first | cases h | skip
    rename_i a b ha hb
    split at h<;>first | cases h | skip
    rename_i r1 hr1
    simp only [Op.eqItems,Sem.run_bind,Lq ha,Lq hb,Result.andThen_ok,ih d _ _ _ _ hr1 w]
    cases is with
    | nil=>
     simp only [Option.some.injEq] at h
     subst h
     cases r1<;>rfl
    | cons g gs=>
     simp only at h
     split at h<;>first | cases h | skip
     rename_i r2 hr2
     have h2:=ihl r2 hr2
     cases r1
     ·rfl
     ·simp only [Bool.not_true,Bool.false_eq_true,if_false]
      rw [h2]
      rfl
theorem W5 {op:BinOp} {t:TypeId} {x y:Operand} {vx vy:Value} (h:Qe P op t vx vy k):
  ∃ v,k v/\∀ w,Ss σ w->(do eqGuard op t x y vx vy;binOp op t vx vy:Sem Value).run P w=.ok v w:=by
 by_cases hna:∃ xs ys,vx=.agg xs/\vy=.agg ys
 ·obtain ⟨xs,ys,rfl,rfl⟩:=hna
  simp only [Qe] at h
  split at h<;>first | exact h.elim | skip
  ·rename_i r hg he
   refine ⟨_,h,fun w _=>?_⟩
   simp only [Sem.run_bind,run_eqGuard_agg w _ _ _ _ _ _ hg,Result.andThen_ok,run_eql_struct]
   rw [show (10000:Nat)=9992+8 from rfl,Ve 8 9992 _ _ _ _ he]
   rfl
  ·rename_i r hg he
   refine ⟨_,h,fun w _=>?_⟩
   simp only [Sem.run_bind,run_eqGuard_agg w _ _ _ _ _ _ hg,Result.andThen_ok,run_neq_struct]
   rw [show (10000:Nat)=9992+8 from rfl,Ve 8 9992 _ _ _ _ he]
   rfl
 ·exact Ls _ _ _ (Ut (fun xs ys e e'=>hna ⟨xs,ys,e,e'⟩) h)
theorem Nj {s f:Nat} {o n u:Nat} (h:Lo P s f=some (o,n,u)):∃ fs fd i,P.underlying s=some (.struct fs)/\fs[f]? = some fd/\P.info? fd.type=some i/\o=fd.offset/\n=i.size/\u=fd.type:=by
 unfold Lo at h
 split at h
 ·rename_i fs hs
  split at h
  ·rename_i fd hf
   split at h
   ·rename_i i hi
    simp only [Option.some.injEq,Prod.mk.injEq] at h
    exact ⟨fs,fd,i,hs,hf,hi,h.1.symm,h.2.1.symm,h.2.2.symm⟩
   ·cases h
  ·cases h
 ·cases h
theorem X0 {t:TypeId} {cs:Array Value} {off:Nat} {i:TypeInfo} (hi:P.info? t=some i) (ha:GT P t=true) (hk:k (.agg (cs.extract off (off+i.size)))):ywp P (part t cs off) k σ:=by
 unfold part
 have hd:∃ d,P.underlying t=some d:=by
  unfold GT at ha
  split at ha<;>first | cases ha | skip
  ·exact ⟨_,by assumption⟩
  ·exact ⟨_,by assumption⟩
 obtain ⟨d,hd⟩:=hd
 refine Gn hd ?_
 rw [ha]
 refine AO _ _ _ _ ?_
 refine AO (P:=P) (typeInfo t) _ _ _ ?_
 refine AO (P:=P) program _ _ _ ?_
 show ywp P (match P.info? t with | some i=>pure i | none=>stuck "no such type") _ _
 rw [hi]
 exact hk
theorem H5 {t:TypeId} (hu:∃ d,P.underlying t=some d) (ha:GT P t=false) {cs:Array Value} {off:Nat} {v:Value} (hv:cs[off]? = some v) (hk:k v):ywp P (part t cs off) k σ:=by
 obtain ⟨d,hd⟩:=hu
 unfold part
 refine Gn hd ?_
 rw [ha]
 show ywp P (match cs[off]? with | some v=>pure v | none=>stuck "part: no such cell") k σ
 rw [hv]
 exact hk
theorem PU {α:Type} {ik:IntKind} {z:Int} {f:IntKind×Int->Sem α} {K:α->Prop} (h:ywp P (f (ik,z)) K σ):ywp P (asIntOf (.int ik z) >>= f) K σ:=h
theorem Ln {α:Type} {ik:IntKind} {z:Int} {y:Nat} {c:BoundsCode} {f:Nat->Sem α} {K:α->Prop} (h0:0<=z) (h1:z<=y) (h:ywp P (f z.toNat) K σ):ywp P (Instr.sliceBound (.int ik z) y c >>= f) K σ:=by
 refine AO _ _ _ _ ?_
 unfold Instr.sliceBound
 refine PU ?_
 show ywp P (if 0<=z/\z<=y then pure z.toNat else boundsPanic ik z y c) _ σ
 rw [if_pos ⟨h0,h1⟩]
 exact h
theorem M5 (A:aA):A.map (·.add 0)=A:=by cases A<;>rfl
theorem Tw (ik:IntKind):∀ (l:List Value) (a:Int) (v:Value),TC ik a l=some v->k v->ywp P (l.foldlM Builtin.min2 (.int ik a)) k σ:=by
 intro l
 induction l with
 | nil=>intro a v h hk;simp [TC] at h;subst h;exact hk
 | cons x l ih=>
  intro a v h hk
  cases x<;>simp only [TC] at h<;>first | cases h | skip
  rename_i k2 b
  rw [List.foldlM_cons]
  refine AO _ _ _ _ ?_
  show ywp P (l.foldlM Builtin.min2 (.int ik (if b<a then b else a))) k σ
  exact ih _ _ h hk
theorem SW (ik:IntKind):∀ (l:List Value) (a:Int) (v:Value),SU ik a l=some v->k v->ywp P (l.foldlM Builtin.max2 (.int ik a)) k σ:=by
 intro l
 induction l with
 | nil=>intro a v h hk;simp [SU] at h;subst h;exact hk
 | cons x l ih=>
  intro a v h hk
  cases x<;>simp only [SU] at h<;>first | cases h | skip
  rename_i k2 b
  rw [List.foldlM_cons]
  refine AO _ _ _ _ ?_
  show ywp P (l.foldlM Builtin.max2 (.int ik (if b>a then b else a))) k σ
  exact ih _ _ h hk
theorem Uz {t:TypeId} (ha:GT P t=true):∃ d,P.underlying t=some d:=by
 unfold GT at ha
 split at ha<;>first | cases ha | skip
 ·exact ⟨_,by assumption⟩
 ·exact ⟨_,by assumption⟩
theorem OZ {t:TypeId} {b off:Nat}
  (h:match GT P t with
   | true=>match (Bi P 8 t).length==P.cellsOf t with
    | true=>lfs σ (Bi P 8 t) b off 0 fun vs=>k (.agg vs.toArray)
    | false=>False
   | false=>match P.underlying t with
    | some _=>lf σ (RQ P t) b off k
    | none=>False):ywp P (loadVar t ⟨b,off,none⟩) k σ:=by
 unfold loadVar
 split at h
 ·rename_i ha
  split at h<;>first | exact h.elim | skip
  rename_i hl
  obtain ⟨d,hd⟩:=Uz ha
  obtain ⟨i,hi⟩:=Tv hd
  refine Gn hd ?_
  rw [ha]
  show ywp P (do pure (.agg (← loadCells ⟨b,off,none⟩ (← sizeOf t)))) k σ
  refine El hi ?_
  have hn:i.size=(Bi P 8 t).length:=by rw [M1 hi] at hl;simpa using (beq_iff_eq.1 hl).symm
  rw [hn]
  exact AO _ _ _ _ (Rb (Bi P 8 t) 0 #[] _ h fun vs hvs=>(show k _ from by simpa using hvs))
 ·rename_i ha
  split at h<;>first | exact h.elim | skip
  rename_i d hd
  obtain ⟨v,hv,hk⟩:=Vx h
  refine Gn hd ?_
  rw [ha]
  exact ⟨v,hv,hk⟩
theorem AaT {o:Oper} {ρ:Operand->Value} (hb:∀ t parts,o.op≠.build t parts) (hbin:∀ op t x y u,o.op≠.binOp op t x y u) (h:lY P o.op ρ σ k):ywp P (execOp ρ o) (YV k) σ:=by
 obtain ⟨dst,op,ty,pos,after,guard⟩:=o
 cases op
 case build t parts=>exact absurd rfl (hb t parts)
 all_goals simp only [lY] at h
 case move x=>exact ⟨_,rfl,h⟩
 case assign x=>exact ⟨_,rfl,h⟩
 case pick c a b=>
  simp only [execOp]
  split at h<;>first | exact h.elim | skip
  ·rename_i e;rw [e];exact ⟨_,rfl,h⟩
  ·rename_i e;rw [e];exact ⟨_,rfl,h⟩
 case nilCheck x=>
  simp only [execOp]
  split at h<;>first | exact h.elim | skip
  ·rename_i e;obtain ⟨b,off,rfl,h⟩:=Hb h;rw [e];exact ⟨_,rfl,h⟩
  ·rename_i e;rw [e];exact ⟨_,rfl,h⟩
 case fieldAddr s x f=>
  simp only [execOp]
  refine Hh ?_
  split at h<;>first | exact h.elim | skip
  rename_i o n u hf
  split at h<;>first | exact h.elim | skip
  rename_i e
  obtain ⟨b,off,rfl,h⟩:=Hb h
  rw [e]
  obtain ⟨fs,fd,i,hs,hfd,hi,rfl,hn,rfl⟩:=Nj hf
  unfold Instr.fieldAt
  refine BI hs ?_
  simp only [hfd]
  refine AO (P:=P) (Instr.sureAddr (.pointer (some ⟨b,off,none⟩))) _ _ _ ?_
  refine AO _ _ _ _ ?_
  unfold fieldPlace
  refine El hi ?_
  rw [if_neg (by omega)]
  show k (.pointer (some ((⟨b,off,none⟩:Addr).add fd.offset)))
  rw [Du,← KY]
  exact h
 case load t x=>
  simp only [execOp]
  refine Hh ?_
  split at h<;>first | exact h.elim | skip
  rename_i p e
  obtain ⟨b,off,rfl,h⟩:=Hb h
  rw [e]
  exact OZ h
 case field t x f=>
  simp only [execOp]
  refine Hh ?_
  split at h<;>first | exact h.elim | skip
  rename_i o n u hf
  split at h<;>first | exact h.elim | skip
  rename_i cs e
  rw [e]
  obtain ⟨fs,fd,i,hs,hfd,hi,rfl,rfl,rfl⟩:=Nj hf
  unfold Instr.field
  refine BI hs ?_
  simp only [hfd]
  refine AO (P:=P) (asAgg (.agg cs)) _ _ _ ?_
  show ywp P (part fd.type cs fd.offset) k σ
  split at h
  ·rename_i ha
   exact X0 hi ha h
  ·rename_i ha
   split at h<;>first | exact h.elim | skip
   rename_i d v hd hv
   exact H5 ⟨d,hd⟩ ha hv h
 case indexAddr t x ix=>
  simp only [execOp]
  refine Hh ?_
  unfold Instr.indexAt
  split at h<;>first | exact h.elim | skip
  ·rename_i e hu
   split at h<;>first | exact h.elim | skip
   rename_i ie A n c ik z hi e1 e2
   obtain ⟨b,off,rfl,h0,h1,h⟩:=Hb h
   rw [e1,e2]
   refine PU ?_
   refine BI hu ?_
   refine BI hu ?_
   show ywp P (if 0<=z/\z<(n:Int) then _ else _) k σ
   rw [if_pos ⟨h0,h1⟩]
   refine El hi ?_
   show k (.pointer (some ((⟨b,off,none⟩:Addr).add (z.toNat*ie.size))))
   rw [Du,← Ce]
   exact h
  ·rename_i m e hu
   split at h<;>first | exact h.elim | skip
   rename_i ie p ik z hi e1 e2
   obtain ⟨b,off,rfl,h0,h1,h⟩:=Hb h
   rw [e1,e2]
   refine PU ?_
   refine BI hu ?_
   refine AO (P:=P) (Instr.sureAddr (.pointer (some ⟨b,off,none⟩))) _ _ _ ?_
   refine BI hu ?_
   show ywp P (if 0<=z/\z<((m+1:Nat):Int) then _ else _) k σ
   rw [if_pos ⟨h0,h1⟩]
   refine El hi ?_
   show k (.pointer (some ((⟨b,off,none⟩:Addr).add (z.toNat*ie.size))))
   rw [Du,← Ce]
   exact h
 case index t x ix=>
  simp only [execOp]
  refine Hh ?_
  unfold Instr.index
  split at h<;>first | exact h.elim | skip
  rename_i n e hu
  split at h<;>first | exact h.elim | skip
  rename_i ie d cs ik z hi ha hd e1 e2
  obtain ⟨h0,h1,h⟩:=h
  obtain ⟨v,hv,h⟩:=Y6 h
  rw [e1,e2]
  refine PU ?_
  refine BI hu ?_
  show ywp P (if 0<=z/\z<(n:Int) then _ else _) k σ
  rw [if_pos ⟨h0,h1⟩]
  refine El hi ?_
  exact H5 ⟨d,hd⟩ ha hv h
 case binOp op t x y u=>exact absurd rfl (hbin op t x y u)
 case unOp op t x=>
  simp only [execOp]
  refine Hh ?_
  cases op<;>simp only at h
  case not=>
   split at h<;>first | exact h.elim | skip
   rename_i e;rw [e];exact h
  case neg=>
   split at h<;>first | exact h.elim | skip
   rename_i e;rw [e];exact h
 case convert s d x=>
  simp only [execOp]
  refine Hh ?_
  split at h<;>first | exact h.elim | skip
  rename_i ds ik ik' n hs hu e
  rw [e]
  unfold convert
  refine BI hs ?_
  refine BI hu ?_
  cases ds<;>exact h
 case extract x i=>
  simp only [execOp]
  refine Hh ?_
  split at h<;>first | exact h.elim | skip
  rename_i vs e
  rw [e]
  split at h<;>first | exact h.elim | skip
  rename_i v hv
  simp only [Instr.extract,hv]
  exact h
 case makeFunc fn first caps=>rw [NN,NN] at h;exact ⟨_,rfl,h⟩
 case makeInterface t x=>
  simp only [execOp]
  refine Hh ?_
  unfold Instr.makeInterface
  split at h<;>first | exact h.elim | skip
  rename_i d hne hu
  refine BI hu ?_
  cases d<;>first | exact h | exact absurd rfl (hne _)
 case slice t x lo hi mx=>
  simp only [execOp]
  refine Hh ?_
  cases mx<;>simp only at h
  split at h<;>first | exact h.elim | skip
  rename_i e hu
  split at h<;>first | exact h.elim | skip
  rename_i ie A n c hi e1
  rw [e1]
  unfold Instr.sliceAt
  refine BI hu ?_
  show ywp P (Instr.slice t (.slice A n c) _ _ none) k σ
  unfold Instr.slice
  refine BI hu ?_
  refine AO _ _ _ _ ?_
  unfold Instr.sliceBounds
  split at h<;>first | exact h.elim | skip
  ·rename_i e2 e3
   rw [e2,e3]
   refine El hi ?_
   show k (.slice (if c=0 then A else A.map (·.add (0*ie.size))) (n-0) (c-0))
   simpa [M5] using h
  ·rename_i kl l e2 e3
   rw [e2,e3]
   obtain ⟨h0,h1,h⟩:=h
   refine Ln h0 h1 ?_
   exact El hi h
  ·rename_i kh hh e2 e3
   rw [e2,e3]
   obtain ⟨h0,h1,h⟩:=h
   refine Ln h0 h1 ?_
   refine El hi ?_
   show k (.slice (if c=0 then A else A.map (·.add (0*ie.size))) (hh.toNat-0) (c-0))
   simpa [M5] using h
  ·rename_i kl l kh hh e2 e3
   rw [e2,e3]
   obtain ⟨h0,h1,h2,h⟩:=h
   refine Ln (by omega) h2 ?_
   refine Ln h0 (by omega) ?_
   exact El hi h
 case call c=>
  obtain ⟨callee,args,argTypes⟩:=c
  cases callee
  case value f=>exact h.elim
  case invoke r m=>exact h.elim
  case builtin bi=>
   cases bi<;>(try exact (h:False).elim)
   case len=>
    show ywp P (do pure (.value (← Builtin.len_ argTypes ty (args.map ρ))):Sem Next) (YV k) σ
    refine Hh ?_
    simp only at h
    split at h<;>first | exact h.elim | skip
    rename_i x t ea et
    have ea':args=#[x]:=by rw [← Array.toList_inj];simpa using ea
    have et':argTypes=#[t]:=by rw [← Array.toList_inj];simpa using et
    subst ea';subst et'
    have hm:(#[x].map ρ)=#[ρ x]:=by simp
    rw [hm]
    split at h<;>first | exact h.elim | skip
    ·rename_i hu e1
     rw [e1]
     exact BI (f:=fun d=>match d,Value.slice _ _ _ with | .string,.string s=>_ | .array n _,_=>_ | .pointer arr,_=>_ | .slice _,.slice _ n _=>_ | .map _ _,.map none | .chan _ _,.chan none=>_ | .map _ _,.map (some r)=>_ | .chan _ _,.chan (some r)=>_ | _,_=>_) hu h
    ·rename_i hu
     exact BI (f:=fun d=>match d,ρ x with | .string,.string s=>_ | .array n _,_=>_ | .pointer arr,_=>_ | .slice _,.slice _ n _=>_ | .map _ _,.map none | .chan _ _,.chan none=>_ | .map _ _,.map (some r)=>_ | .chan _ _,.chan (some r)=>_ | _,_=>_) hu h
    ·rename_i hu e1
     rw [e1]
     exact BI (f:=fun d=>match d,Value.string _ with | .string,.string s=>_ | .array n _,_=>_ | .pointer arr,_=>_ | .slice _,.slice _ n _=>_ | .map _ _,.map none | .chan _ _,.chan none=>_ | .map _ _,.map (some r)=>_ | .chan _ _,.chan (some r)=>_ | _,_=>_) hu h
   case cap=>
    show ywp P (do pure (.value (← Builtin.cap_ argTypes ty (args.map ρ))):Sem Next) (YV k) σ
    refine Hh ?_
    simp only at h
    split at h<;>first | exact h.elim | skip
    rename_i x t ea et
    have ea':args=#[x]:=by rw [← Array.toList_inj];simpa using ea
    have et':argTypes=#[t]:=by rw [← Array.toList_inj];simpa using et
    subst ea';subst et'
    have hm:(#[x].map ρ)=#[ρ x]:=by simp
    rw [hm]
    split at h<;>first | exact h.elim | skip
    rename_i hu e1
    rw [e1]
    exact BI (f:=fun d=>match d,Value.slice _ _ _ with | .array n _,_=>_ | .pointer arr,_=>_ | .slice _,.slice _ _ n=>_ | .chan _ _,.chan none=>_ | .chan _ _,.chan (some r)=>_ | _,_=>_) hu h
   case min=>
    show ywp P (do pure (.value (← Builtin.min_ argTypes ty (args.map ρ))):Sem Next) (YV k) σ
    refine Hh ?_
    simp only at h
    split at h<;>first | exact h.elim | skip
    rename_i v hv
    unfold Builtin.min_
    have hl:(args.map ρ).toList=args.toList.map ρ:=by simp
    rw [hl]
    generalize args.toList.map ρ=l at hv
    cases l with
    | nil=>simp [Z9] at hv
    | cons y l=>
     cases y<;>simp only [Z9] at hv<;>first | cases hv | skip
     exact Tw _ _ _ _ hv h
   case max=>
    show ywp P (do pure (.value (← Builtin.max_ argTypes ty (args.map ρ))):Sem Next) (YV k) σ
    refine Hh ?_
    simp only at h
    split at h<;>first | exact h.elim | skip
    rename_i v hv
    unfold Builtin.max_
    have hl:(args.map ρ).toList=args.toList.map ρ:=by simp
    rw [hl]
    generalize args.toList.map ρ=l at hv
    cases l with
    | nil=>simp [Aa8] at hv
    | cons y l=>
     cases y<;>simp only [Aa8] at hv<;>first | cases hv | skip
     exact SW _ _ _ _ hv h
theorem UK {o:Oper} {ρ:Operand->Value} (h:lY P o.op ρ σ k):
  ∃ v,k v/\∀ w,Ss σ w->(execOp ρ o).run P w=.ok (.value v) w:=by
 by_cases hb:∃ t parts,o.op=.build t parts
 ·obtain ⟨t,parts,hb⟩:=hb
  rw [hb] at h
  simp only [lY] at h
  split at h<;>first | exact h.elim | skip
  rename_i cs hc
  have hmap:parts.toList.map (fun x:Nat×Operand=>(x.fst,ρ x.snd))=(parts.map fun (i,x)=>(i,ρ x)).toList:=by simp
  rw [hmap] at hc
  refine ⟨_,h,fun w _=>?_⟩
  unfold execOp
  simp only [hb,Sem.run_bind,run_build w t _ cs hc,Result.andThen_ok]
  rfl
 ·by_cases hbin:∃ op t x y u,o.op=.binOp op t x y u
  ·obtain ⟨op,t,x,y,u,hbin⟩:=hbin
   rw [hbin] at h
   obtain ⟨v,hv,hr⟩:=W5 (σ:=σ) (x:=x) (y:=y) h
   refine ⟨v,hv,fun w hw=>?_⟩
   unfold execOp
   have:=hr w hw
   simp only [hbin,Sem.run_bind] at this ⊢
   rw [this]
   rfl
  ·obtain ⟨nx,⟨v,rfl,hk⟩,hr⟩:=Ls _ _ _ (AaT (fun t parts e=>hb ⟨t,parts,e⟩) (fun op t x y u e=>hbin ⟨op,t,x,y,u,e⟩) h)
   exact ⟨v,hk,hr⟩
end
theorem Nf {P:Program} {α:Type} {σ:Hp} {t:TypeId} {d:TypeDesc} {f:TypeDesc->Sem α} {K:α->Hp->Prop} (h:P.underlying t=some d) (hk:swp P (f d) K σ):swp P (underlying t >>= f) K σ:=by
 refine Bl _ _ _ _ ?_
 refine Bl (P:=P) program _ _ _ ?_
 show swp P (match P.underlying t with | some d=>pure d | none=>stuck "no such type") _ _
 rw [h]
 exact hk
theorem IB {P:Program} {α:Type} {σ:Hp} {t:TypeId} {f:TypeInfo->Sem α} {K:α->Hp->Prop} {i:TypeInfo} (h:P.info? t=some i) (hk:swp P (f i) K σ):swp P (typeInfo t >>= f) K σ:=by
 refine Bl _ _ _ _ ?_
 refine Bl (P:=P) program _ _ _ ?_
 show swp P (match P.info? t with | some i=>pure i | none=>stuck "no such type") _ _
 rw [h]
 exact hk
theorem NS {P:Program} {α:Type} {σ:Hp} {t:TypeId} {f:Nat->Sem α} {K:α->Hp->Prop} {i:TypeInfo} (h:P.info? t=some i) (hk:swp P (f i.size) K σ):swp P (sizeOf t >>= f) K σ:=by
 refine Bl _ _ _ _ ?_
 exact IB h hk
theorem KT {P:Program} {α:Type} {σ:Hp} {t:TypeId} {f:Value->Sem α} {K:α->Hp->Prop} {i:TypeInfo} {z:Value} (h:P.info? t=some i) (hz:i.zero=some z) (hk:swp P (f z) K σ):swp P (zeroValue t >>= f) K σ:=by
 refine Bl _ _ _ _ ?_
 refine IB h ?_
 simp only [hz]
 exact hk
theorem Vb {P:Program} {α:Type} {σ:Hp} {ik:IntKind} {z:Int} {f:Int->Sem α} {K:α->Hp->Prop} (hk:swp P (f z) K σ):swp P (asInt (.int ik z) >>= f) K σ:=hk
def YA (P:Program) (t:TypeId) (f:Value) (args:Array Value) (σ:Hp) (K:Value->Hp->Prop):Prop:=
 Ra P f args σ fun v σ'=>tyV P t v fun u=>K u σ'
def one (v:Value) (p:Prop):Prop:=match Gg v with
 | true=>p
 | false=>False
theorem DA {v:Value} {p:Prop}:one v p↔Gg v=true/\p:=by
 unfold one
 split<;>simp [*]
def stc (σ:Hp) (b off:Nat):Nat->List Value->(Hp->Prop)->Prop
 | _,[],K=>K σ
 | i,v::vs,K=>one v (σ.wr ⟨b,ofs off i,none⟩/\stc (σ.put ⟨b,ofs off i,none⟩ v) b off (i+1) vs K)
def TX (z:Value) (n:Nat):Array Value:=(Array.range (n*z.cells.size)).map fun i=>z.cells[i%z.cells.size]!
def VR (z:Value) (n:Nat):Array Value:=⟨(List.range n).map fun i=>z.cells[i%z.cells.size]!⟩
theorem Xm (z:Value) (n:Nat):VR z n=(Array.range n).map (z.cells[· % z.cells.size]!):=by
 unfold VR
 rw [← Array.toList_inj]
 simp
def lE (P:Program) (o:Oper) (ρ:Operand->Value) (σ:Hp) (K:Value->Hp->Prop):Prop:=
 match o.op with
 | .box e x=>∀ b,σ b=none->K (.pointer (some ⟨b,0,none⟩)) (σ.ins b (.cells (ρ x).cells e))
 | .alloc e=>match (P.info? e).bind (·.zero) with
  | some z=>∀ b,σ b=none->K (.pointer (some ⟨b,0,none⟩)) (σ.ins b (.cells z.cells e))
  | none=>False
 | .buildSlice t len parts=>match P.underlying t with
  | some (.slice e)=>match P.info? e with
   | some ie=>match ie.zero,decide (len*ie.size<=16777216),decide (len*ie.size=0) with
    | some z,true,false=>match Instr.fill (fun i=>some (i*ie.size,ie.size)) (VR z (len*ie.size)) (parts.toList.map fun (i,x)=>(i,ρ x)) with
     | some cs=>∀ b,σ b=none->K (.slice (some ⟨b,0,none⟩) len len) (σ.ins b (.cells cs e))
     | none=>False
    | some _,true,true=>match parts.toList with
     | []=>∀ b,σ b=none->K (.slice (some ⟨b,0,none⟩) len len) (σ.ins b (.cells #[] e))
     | _=>False
    | _,_,_=>False
   | none=>False
  | _=>False
 | .store t x v=>match ρ x,(ρ v).cells.size==P.cellsOf t,P.info? t with
  | .pointer p,true,some _=>dr p fun b off=>stc σ b off 0 (ρ v).cells.toList fun σ'=>K undef σ'
  | _,_,_=>False
 | .makeSlice t l c=>match P.underlying t with
  | some (.slice e)=>match P.info? e with
   | some ie=>match ie.zero,ρ l,ρ c,z0 ie with
    | some z,.int _ n,.int _ m,true=>0<=n/\n<=m/\m<=1000000000/\∀ b,σ b=none->K (.slice (some ⟨b,0,none⟩) n.toNat m.toNat) (σ.ins b (.cells (TX z m.toNat) e))
    | _,_,_,_=>False
   | none=>False
  | _=>False
 | .call { callee:=.value f,args,.. }=>YA P o.type (ρ f) (C1 ρ args) σ K
 | .call { callee:=.builtin .append,args,argTypes }=>swp P (Builtin.append_ argTypes o.type (C1 ρ args)) (fun v σ'=>∃ A n c,v=.slice A n c/\K (.slice A n c) σ') σ
 | .call { callee:=.builtin .copy,args,argTypes }=>swp P (Builtin.copy_ argTypes o.type (C1 ρ args)) (fun v σ'=>∃ n,v=.int .i64 n/\K (.int .i64 n) σ') σ
 | .call { callee:=.builtin .clear,args,argTypes }=>swp P (Builtin.clear_ argTypes o.type (C1 ρ args)) (fun v σ'=>v=.tuple #[]/\K (.tuple #[]) σ') σ
 | .call { callee:=.invoke r m,args,.. }=>match ρ r with
  | .iface t v=>∃ f rv,ywp P (method (P.types.size+Made.depth) t v m) (fun x=>x=(f,rv)) σ/\Ap P f=true/\FN P f (Wa #[rv] (C1 ρ args)) σ fun v σ'=>tyV P o.type v fun u=>K u σ'
  | _=>False
 | .makeMap _ none=>∀ b,σ b=none->K (.map (some b)) (σ.ins b (.map #[] 0))
 | .mapUpdate t m k x=>swp P (Instr.mapUpdate t (ρ m) (ρ k) (ρ x)) (fun _ σ'=>K undef σ') σ
 | .insert t m k x=>swp P (Instr.mapUpdate t (ρ m) (ρ k) (ρ x)) (fun _ σ'=>K undef σ') σ
 | .lookup t x i ok=>ywp P (Instr.lookup t (ρ x) (ρ i) ok) (fun v=>match ok with
  | true=>∃ u t,v=.tuple #[u,.bool t]/\K (.tuple #[u,.bool t]) σ
  | false=>K v σ) σ
 | .range t x=>swp P (Instr.range t (ρ x)) (fun v σ'=>∃ b,v=.pointer (some ⟨b,0,none⟩)/\K (.pointer (some ⟨b,0,none⟩)) σ') σ
 | .next it s=>swp P (Instr.next (ρ it) s o.type) (fun v σ'=>∃ t vs,v=.tuple ⟨.bool t::vs⟩/\K (.tuple ⟨.bool t::vs⟩) σ') σ
 | .entry it=>ywp P (Instr.entry (ρ it)) (fun v=>∃ k u,v=.tuple #[k,u]/\K (.tuple #[k,u]) σ) σ
 | .typeAssert x xt t false=>ywp P (Instr.typeAssert (ρ x) xt t false) (fun v=>K v σ) σ
 | _=>False
where
 z0 (ie:TypeInfo):Bool:=decide (ie.bytes<=4096)&&(match ie.zero with | some z=>z.cells.size==ie.size&&decide (0<ie.size) | none=>false)
def NX (P:Program) (K:Value->Hp->Prop):Next->Hp->Prop
 | .value v,σ=>K v σ
 | .skip,σ=>K undef σ
 | .enter f args,σ=>FN P f args σ K
 | _,_=>False
theorem JA {P:Program} {σ:Hp} {s:Sem Value} {K:Value->Hp->Prop} (h:swp P s K σ):swp P (do pure (.value (← s)):Sem Next) (NX P K) σ:=
 Bl _ _ _ _ (Ba s σ (fun _ _ hv=>hv) h)
theorem Y2 {P:Program} {g:FuncId} {args:Array Value} {σ:Hp} {K:Value->Hp->Prop} (he:Ap P g=true) (h:FN P g args σ K):swp P (callFunc g args) (NX P K) σ:=by
 unfold callFunc
 refine Bl (P:=P) program _ _ _ ?_
 show swp P (match P.funcs[g]? with | none=>_ | some fn=>_) _ _
 unfold Ap at he
 split at he<;>first | cases he | skip
 rename_i fn hf
 rw [hf]
 simp only [Bool.and_eq_true,Bool.not_eq_true'] at he
 obtain ⟨h1,h2⟩:=he
 simp only [h2,Bool.false_eq_true,if_false]
 have h3:fn.body.isNone=false:=by cases hb:fn.body<;>simp [hb] at h1 ⊢
 simp only [h3,Bool.false_eq_true,if_false]
 exact h
theorem GA {P:Program} {b off:Nat} {K:Unit->Hp->Prop} (vs:List Value):∀ (i:Nat) (σ:Hp),stc σ b off i vs (K ())->swp P (storeCells ⟨b,off,none⟩ vs i) K σ:=by
 induction vs with
 | nil=>intro i σ h;exact h
 | cons v vs ih=>
  intro i σ h
  obtain ⟨h1,h2,h3⟩:=DA.1 h
  rw [KY] at h2 h3
  show swp P (do store ((⟨b,off,none⟩:Addr).add i) v;storeCells ⟨b,off,none⟩ vs (i+1)) K σ
  rw [Du]
  exact ⟨h1,h2,ih _ _ h3⟩
def FE:Op->Bool
 | .call { callee:=.value _,.. }=>true
 | .call { callee:=.invoke ..,.. }=>true
 | _=>false
theorem Sb {α:Type} {P:Program} {s:Sem α} {K:α->Hp->Prop} {σ:Hp} (h:ywp P s (fun a=>K a σ) σ):swp P s K σ:=by
 induction s with
 | pure a=>exact h
 | load m a k ih=>obtain ⟨v,hv,h⟩:=h;exact ⟨v,hv,ih _ h⟩
 | shape r k ih=>obtain ⟨o,rw,hb,h⟩:=h;exact ⟨o,rw,hb,ih _ h⟩
 | frozen a k ih=>obtain ⟨o,rw,hb,h⟩:=h;exact ⟨o,rw,hb,ih _ h⟩
 | getObj r k ih=>obtain ⟨o,rw,hb,hc,h⟩:=h;exact ⟨o,rw,hb,hc,ih _ h⟩
 | program k ih=>exact ih _ h
 | mark m k ih=>exact ih h
 | store m a v k ih=>exact h.elim
 | new o k ih=>exact h.elim
 | freeze a n k ih=>exact h.elim
 | setObj r o k ih=>exact h.elim
 | choose q k ih=>exact h.elim
 | sys c k ih=>exact h.elim
 | halt h'=>exact h.elim
theorem AaR {P:Program} {o:Oper} {ρ:Operand->Value} {σ:Hp} {K:Value->Hp->Prop} (hv:FE o.op=false) (h:lE P o ρ σ K):swp P (execOp ρ o) (NX P K) σ:=by
 obtain ⟨dst,op,ty,pos,after,guard⟩:=o
 cases op<;>simp only [lE] at h
 case box e x=>exact fun b hb=>h b hb
 case alloc e=>
  split at h<;>first | exact h.elim | skip
  rename_i z hz
  simp only [execOp]
  refine JA ?_
  unfold Instr.alloc
  cases hi:P.info? e with
  | none=>simp [hi] at hz
  | some i=>
   simp only [hi,Option.bind_some] at hz
   refine KT hi hz ?_
   exact fun b hb=>h b hb
 case store t x v=>
  split at h<;>first | exact h.elim | skip
  rename_i p i e1 e2 hi
  obtain ⟨b,off,rfl,h⟩:=Hb h
  simp only [execOp]
  refine Bl _ _ _ _ ?_
  rw [e1]
  show swp P (storeVar t ⟨b,off,none⟩ (ρ v)) _ σ
  unfold storeVar
  refine NS hi ?_
  rw [M1 hi] at e2
  rw [if_neg (by simpa using e2)]
  exact GA _ _ _ h
 case buildSlice t len parts=>
  simp only [execOp]
  refine JA ?_
  unfold Instr.buildSlice
  split at h<;>first | exact h.elim | skip
  rename_i e hu
  split at h<;>first | exact h.elim | skip
  rename_i ie hi
  refine Nf hu ?_
  refine NS hi ?_
  split at h<;>first | exact h.elim | skip
  ·rename_i z hz h1 h2
   have h1':=of_decide_eq_true h1
   have h2':=of_decide_eq_false h2
   rw [if_neg (by omega)]
   show swp P (if len*ie.size=0 then _ else _) K σ
   rw [if_neg h2']
   refine KT hi hz ?_
   split at h<;>first | exact h.elim | skip
   rename_i cs hc
   show swp P (match Instr.fill _ _ _ with | some cells=>_ | x=>_) K σ
   rw [Xm] at hc
   have hmap:(Array.map (fun x:Nat×Operand=>(x.fst,ρ x.snd)) parts).toList=parts.toList.map fun (i,x)=>(i,ρ x):=by simp
   rw [hmap,hc]
   exact fun b hb=>h b hb
  ·rename_i z hz h1 h2
   have h2':=of_decide_eq_true h2
   rw [if_neg (by omega)]
   show swp P (if len*ie.size=0 then _ else _) K σ
   rw [if_pos h2']
   split at h<;>first | exact h.elim | skip
   rename_i hp
   have hp':parts=#[]:=by rw [← Array.toList_inj];simpa using hp
   subst hp'
   have e0:∀ (f:Nat->Value),Array.map f (Array.range 0)=#[]:=fun f=>by simp
   have e1:(Array.map (fun x:Nat×Operand=>(x.fst,ρ x.snd)) #[]).toList=[]:=by simp
   simp only [h2',e0,e1]
   exact fun b hb=>h b hb
 case makeSlice t l c=>
  simp only [execOp]
  refine JA ?_
  unfold Instr.makeSlice
  split at h<;>first | exact h.elim | skip
  rename_i e hu
  split at h<;>first | exact h.elim | skip
  rename_i ie hi
  split at h<;>first | exact h.elim | skip
  rename_i z kn n km m hz e1 e2 hzz
  obtain ⟨h0,h1,h2,h⟩:=h
  rw [e1,e2]
  unfold lE.z0 at hzz
  rw [hz] at hzz
  simp only [Bool.and_eq_true,decide_eq_true_eq,beq_iff_eq] at hzz
  obtain ⟨hby,hzs,hsp⟩:=hzz
  refine Nf hu ?_
  refine Vb ?_
  refine Vb ?_
  refine IB hi ?_
  have wn:IntKind.i64.wrap n=n:=IntWalk.i64_in _ (by omega)
  have wm:IntKind.i64.wrap m=m:=IntWalk.i64_in _ (by omega)
  have hbm:(ie.bytes:Int)*m<=281474976710656:=by
   have h3:(ie.bytes:Int)*m<=(ie.bytes:Int)*1000000000:=Int.mul_le_mul_of_nonneg_left h2 (by omega)
   omega
  have htl:(decide (m<0)||decide ((ie.bytes:Int)*m>2^48))=false:=by
   simp only [Bool.or_eq_false_iff,decide_eq_false_iff_not]
   omega
  simp only [wn,wm]
  show swp P (if (((decide (m<0)||decide ((ie.bytes:Int)*m>2^48))||decide (n<0))||decide (n>m))=true then _ else _) K σ
  rw [htl,if_neg (by simp only [Bool.false_or,Bool.or_eq_true,decide_eq_true_eq];omega)]
  refine Bl (P:=P) (askRoom _) _ _ _ ?_
  have hroom:∀ (x:Nat) (Kx:Unit->Hp->Prop),Kx () σ->swp P (askRoom x) Kx σ:=by
   intro x Kx hk
   unfold askRoom
   split<;>exact hk
  refine hroom _ _ ?_
  refine NS hi ?_
  by_cases hm0:m.toNat*ie.size=0
  ·rw [if_pos hm0]
   have hmz:m.toNat=0:=by rcases Nat.mul_eq_zero.1 hm0 with h' | h'<;>omega
   have hzr:TX z m.toNat=#[]:=by rw [hmz];simp [TX]
   rw [hzr] at h
   have e0:∀ (f:Nat->Value),Array.map f (Array.range 0)=#[]:=fun f=>by simp
   simp only [hm0,e0]
   exact fun b hb=>h b hb
  ·rw [if_neg hm0]
   refine KT hi hz ?_
   intro b hb
   have:=h b hb
   unfold TX at this
   rw [hzs] at this
   show K _ (σ.ins b (.cells ((Array.range (m.toNat*ie.size)).map fun x=>z.cells[x%z.cells.size]!) e))
   rw [hzs]
   exact this
 case makeMap t r=>
  cases r<;>simp only at h
  simp only [execOp]
  refine JA ?_
  exact fun b hb=>h b hb
 case mapUpdate t m k x=>exact Bl _ _ _ _ (Ba _ _ (fun _ _ hk=>hk) h)
 case insert t m k x=>exact Bl _ _ _ _ (Ba _ _ (fun _ _ hk=>hk) h)
 case lookup t x i ok=>
  refine JA (Sb (Cq _ _ (fun v hk=>?_) h))
  cases ok
  ·exact hk
  ·obtain ⟨u,t,rfl,hk⟩:=hk
   exact hk
 case range t x=>exact JA (Ba _ _ (fun v σ' ⟨b,e,hk⟩=>e▸hk) h)
 case next it s=>exact JA (Ba _ _ (fun v σ' ⟨t,vs,e,hk⟩=>e▸hk) h)
 case entry it=>exact JA (Sb (Cq _ _ (fun v ⟨k,u,e,hk⟩=>e▸hk) h))
 case typeAssert x xt t ok=>
  cases ok<;>simp only at h
  exact JA (Sb h)
 case call c=>
  obtain ⟨callee,args,argTypes⟩:=c
  cases callee
  case invoke r m=>simp [FE] at hv
  case value f=>simp [FE] at hv
  case builtin bi=>
   cases bi<;>(try exact (h:False).elim)
   all_goals simp only [NN] at h
   case append=>exact JA (s:=Builtin.append_ argTypes ty (args.map ρ)) (Ba _ _ (fun v σ' ⟨A,n,c,e,hk⟩=>e▸hk) h)
   case copy=>exact JA (s:=Builtin.copy_ argTypes ty (args.map ρ)) (Ba _ _ (fun v σ' ⟨n,e,hk⟩=>e▸hk) h)
   case clear=>exact JA (s:=Builtin.clear_ argTypes ty (args.map ρ)) (Ba _ _ (fun v σ' ⟨e,hk⟩=>e▸hk) h)
def lOp (P:Program) (o:Oper) (ρ:Operand->Value) (σ:Hp) (K:Value->Hp->Prop):Prop:=
 match Hm o.op with
 | true=>lY P o.op ρ σ fun v=>K v σ
 | false=>lE P o ρ σ K
def FW (r:Option Nat):Fence:={ Fence.wide with round:=r }
theorem UE {P:Program} {o:Oper} {ρ:Operand->Value} {σ:Hp} {K:Value->Hp->Prop} (h:lE P o ρ σ K):∀ c,o.op≠.defer c:=by
 intro c e
 unfold lE at h
 rw [e] at h
 exact h
theorem UL {P:Program} {o:Op} {ρ:Operand->Value} {σ:Hp} {k:Value->Prop} (h:lY P o ρ σ k):∀ c,o≠.defer c:=by
 intro c e
 rw [e] at h
 exact h
theorem Hf {P:Program} {r:Option Nat} {B:Nat} {w0:World} {M:List Nat} {o:Oper} {a:Act} {K:Value->Hp->Prop} {nx:Next} {σ':Hp} {w w':World} {next:Act->World->Prop} {Q:Exit->Act->World->Prop}
  (hd:∀ c,o.op≠.defer c) (hr:(execOp a.eval o).run P w=.ok nx w') (hn:NX P K nx σ') (hs':Sat B w0 M σ' w') (hk:∀ v σ' w',K v σ'->Sat B w0 M σ' w'->next (a.put o.dst v) w'):o.wpIn (FW r) 0 P a w next Q:=by
 refine ⟨fun f _=>trivial,?_⟩
 rw [Oper.semAt_eq _ _ _ hd,hr]
 cases nx<;>simp only [NX] at hn<;>first | exact hn.elim | skip
 case value v=>exact hk _ _ _ hn hs'
 case skip=>exact hk _ _ _ hn hs'
 case enter f args=>
  refine ⟨fun h=>by simp [FW,Fence.wide] at h,?_⟩
  have h1:CallsIn Fence.wide (0-1) P f args w' _:=callsIn_wide.2 (hn B w0 M w' hs')
  refine CallsIn.mono (F:=FW r) h1 fun e w'' h'=>?_
  obtain ⟨v,s'',rfl,hK,hs''⟩:=h'
  exact hk _ _ _ hK hs''
theorem Jb {P:Program} {g:FuncId} {args:Array Value} {w:World} (he:Ap P g=true):(callFunc g args).run P w=.ok (.enter g args) w:=by
 unfold callFunc
 show Sem.run P (match P.funcs[g]? with | none=>_ | some fn=>_) w=_
 unfold Ap at he
 split at he<;>first | cases he | skip
 rename_i fn hf
 rw [hf]
 simp only [Bool.and_eq_true,Bool.not_eq_true'] at he
 obtain ⟨h1,h2⟩:=he
 simp only [h2,Bool.false_eq_true,if_false]
 have h3:fn.body.isNone=false:=by cases hb:fn.body<;>simp [hb] at h1 ⊢
 simp only [h3,Bool.false_eq_true,if_false]
 rfl
theorem UY {P:Program} {r:Option Nat} {B:Nat} {w0 w:World} {M:List Nat} {o:Oper} {f:Operand} {args:Array Operand} {argTypes:Array TypeId} {a:Act} {σ:Hp} {K:Value->Hp->Prop} {next:Act->World->Prop} {Q:Exit->Act->World->Prop}
  (ho:o.op=.call ⟨.value f,args,argTypes⟩) (h:YA P o.type (a.eval f) (C1 a.eval args) σ K) (hs:Sat B w0 M σ w) (hk:∀ v σ' w',K v σ'->Sat B w0 M σ' w'->next (a.put o.dst v) w'):o.wpIn (FW r) 0 P a w next Q:=by
 obtain ⟨dst,op,ty,pos,after,guard⟩:=o
 simp only at ho h
 subst ho
 unfold YA Ra at h
 rw [NN] at h
 simp only [Vr,Sw] at h
 have e0:(execOp a.eval ⟨dst,.call ⟨.value f,args,argTypes⟩,ty,pos,after,guard⟩).run P w=(do let d ← Deferred.ofValue (a.eval f) (args.map a.eval);invoke d.target d.args:Sem Next).run P w:=rfl
 split at h
 ·rename_i g first caps e
  refine Hf (nx:=.enter g (first++args.map a.eval++caps)) (K:=K) (fun c=>by simp) ?_ ?_ hs hk
  ·rw [e0,e];exact Jb h.1
  ·exact h.2.mono fun v σ' hv=>QE hv
 ·rename_i l first caps e
  obtain ⟨fn,tmps,asg,bd,hy,hr⟩:=h B w0 M w hs
  refine ⟨fun f _=>trivial,?_⟩
  have e1:(execOp a.eval ⟨dst,.call ⟨.value f,args,argTypes⟩,ty,pos,after,guard⟩).run P w=.ok (.round l fn tmps asg bd) w:=by
   rw [e0,e];exact hy
  rw [Oper.semAt_eq _ _ _ (fun c=>by simp),e1]
  refine ⟨fun h=>by simp [FW,Fence.wide] at h,?_⟩
  refine RoundIn.mono (F:=FW r) hr fun e w'' h'=>?_
  obtain ⟨v,s'',rfl,hK,hs''⟩:=h'
  exact hk _ _ _ (QE hK) hs''
 ·exact h.elim
theorem YD {P:Program} {r:Option Nat} {B:Nat} {w0 w:World} {M:List Nat} {o:Oper} {f:Operand} {m:String} {args:Array Operand} {argTypes:Array TypeId} {a:Act} {σ:Hp} {K:Value->Hp->Prop} {next:Act->World->Prop} {Q:Exit->Act->World->Prop}
  (ho:o.op=.call ⟨.invoke f m,args,argTypes⟩) (h:lE P o a.eval σ K) (hs:Sat B w0 M σ w) (hk:∀ v σ' w',K v σ'->Sat B w0 M σ' w'->next (a.put o.dst v) w'):o.wpIn (FW r) 0 P a w next Q:=by
 obtain ⟨dst,op,ty,pos,after,guard⟩:=o
 simp only at ho
 subst ho
 simp only [lE] at h
 split at h<;>first | exact h.elim | skip
 rename_i t v e
 obtain ⟨g,rv,hm,he,hc⟩:=h
 obtain ⟨x,rfl,hr⟩:=Ls _ _ _ hm
 rw [NN,Sw] at hc
 refine Hf (nx:=.enter g (#[rv]++args.map a.eval)) (K:=K) (fun c=>by simp) ?_ ?_ hs hk
 ·have e1:(#[Value.iface t v]++args.map a.eval).extract 1 (#[Value.iface t v]++args.map a.eval).size=args.map a.eval:=by
   apply Array.ext'
   simp [List.take_of_length_le]
  have e0:(execOp a.eval ⟨dst,.call ⟨.invoke f m,args,argTypes⟩,ty,pos,after,guard⟩).run P w=(callMethod (a.eval f) m ((#[a.eval f]++args.map a.eval).extract 1 (#[a.eval f]++args.map a.eval).size)).run P w:=by
   have:(#[a.eval f]++args.map a.eval)[0]? = some (a.eval f):=by
    rw [Array.getElem?_append_left (by simp)]
    rfl
   show Sem.run P (invoke (.fn (.method m) #[]) (#[a.eval f]++args.map a.eval)) w=_
   unfold invoke
   simp only [this]
  rw [e0,e,e1]
  unfold callMethod
  show Sem.run P (do let (f,receiver) ← method (P.types.size+Made.depth) t v m;callFunc f (#[receiver]++args.map a.eval)) w=_
  rw [Sem.run_bind,hr w hs.hold]
  exact Jb he
 ·exact hc.mono fun v σ' hv=>QE hv
theorem YY {P:Program} {r:Option Nat} {B:Nat} {w0 w:World} {M:List Nat} {o:Oper} {a:Act} {σ:Hp} {K:Value->Hp->Prop} {next:Act->World->Prop} {Q:Exit->Act->World->Prop}
  (h:lOp P o a.eval σ K) (hs:Sat B w0 M σ w) (hk:∀ v σ' w',K v σ'->Sat B w0 M σ' w'->next (a.put o.dst v) w'):o.wpIn (FW r) 0 P a w next Q:=by
 unfold lOp at h
 split at h
 ·obtain ⟨v,hv,hr⟩:=UK h
  exact Hf (nx:=.value v) (K:=K) (UL h) (hr w hs.hold) hv hs hk
 ·rename_i hyl
  clear hyl
  by_cases hc:FE o.op=true
  ·obtain ⟨dst,op,ty,pos,after,guard⟩:=o
   cases op<;>first | (simp [FE] at hc;done) | skip
   rename_i c
   obtain ⟨callee,args,argTypes⟩:=c
   cases callee<;>first | (simp [FE] at hc;done) | skip
   ·rename_i f
    exact UY rfl h hs hk
   ·exact YD rfl h hs hk
  ·obtain ⟨nx,σ',w',hr,hn,hs'⟩:=ZD _ _ _ _ (AaR (by simpa using hc) h) hs
   exact Hf (UE h) hr hn hs' hk
def bc (b:Bool) (A B:Prop):Prop:=match b with
 | true=>A
 | false=>B
theorem AaV {b:Bool} {A B:Prop} (h:bc b A B) (e:b=true):A:=by subst e;exact h
theorem Abw {b:Bool} {A B:Prop} (h:bc b A B) (e:b=false):B:=by subst e;exact h
theorem Le {σ:Hp} {s:Sh} {b off:Nat} {k k':Value->Prop} (hk:∀ v,k v->k' v) (h:lf σ s b off k):lf σ s b off k':=by
 cases s<;>simp only [lf] at h ⊢
 all_goals first
  | (obtain ⟨x,h1,h2⟩:=h;exact ⟨x,h1,hk _ h2⟩)
  | (obtain ⟨A,n,c,h1,h2⟩:=h;exact ⟨A,n,c,h1,hk _ h2⟩)
theorem K5 {σ:Hp} {b off:Nat}:∀ {ss:List Sh} {i:Nat} {k k':List Value->Prop},(∀ v,k v->k' v)->lfs σ ss b off i k->lfs σ ss b off i k'
 | [],_,_,_,hk,h=>hk _ h
 | _::_,_,_,_,hk,h=>Le (fun _ hv=>K5 (fun _ hvs=>hk _ hvs) hv) h
theorem F7 {p:aA} {k k':Nat->Nat->Prop} (hk:∀ b o,k b o->k' b o) (h:dr p k):dr p k':=by
 obtain ⟨b,o,e,h⟩:=Hb h;exact Jt.2 ⟨b,o,e,hk _ _ h⟩
theorem YZ:∀ {ss:List Sh} {k k':List Value->Prop},(∀ v,k v->k' v)->tyL ss k->tyL ss k':=by
 intro ss
 induction ss with
 | nil=>intro k k' hk h;exact hk _ h
 | cons s ss ih=>
  intro k k' hk h
  cases s<;>simp only [tyL] at h ⊢
  all_goals first
   | (obtain ⟨x,h⟩:=h;exact ⟨x,ih (fun _ hv=>hk _ hv) h⟩)
   | (obtain ⟨A,n,c,h⟩:=h;exact ⟨A,n,c,ih (fun _ hv=>hk _ hv) h⟩)
theorem TL {P:Program} {t:TypeId} {k k':Value->Prop} (hk:∀ v,k v->k' v) (h:tyC P t k):tyC P t k':=
 YZ (fun vs hv=>by split at hv<;>rename_i e<;>simp only [e,if_true,if_false,Bool.false_eq_true]<;>exact hk _ hv) h
theorem Tq {P:Program}:∀ {ts:List TypeId} {k k':List Value->Prop},(∀ v,k v->k' v)->tyT P ts k->tyT P ts k'
 | [],_,_,hk,h=>hk _ h
 | _::_,_,_,hk,h=>TL (fun _ hv=>Tq (fun _ hvs=>hk _ hvs) hv) h
theorem NF {P:Program} {t:TypeId} {v:Value} {k k':Value->Prop} (hk:∀ v,k v->k' v) (h:tyV P t v k):tyV P t v k':=by
 unfold tyV at h ⊢
 split at h
 ·split at h
  ·rename_i hs;rw [if_pos hs];exact hk _ h
  ·rename_i hs;rw [if_neg hs];exact Tq (fun vs hv=>⟨hv.1,hk _ hv.2⟩) h
 ·exact TL (fun u hu=>⟨hu.1,hk _ hu.2⟩) h
theorem PP {b:Bool} {A A' B B':Prop} (hA:A->A') (hB:B->B') (h:bc b A B):bc b A' B':=by
 cases b
 ·exact hB h
 ·exact hA h
theorem WQ {P:Program} {op:BinOp} {t:TypeId} {x y:Value} {k k':Value->Prop} (hk:∀ v,k v->k' v) (h:Qe P op t x y k):Qe P op t x y k':=by
 unfold Qe at h ⊢
 split at h
 ·split at h
  ·rename_i e;subst e
   simp only [if_true]
   cases op<;>first | exact hk _ h | exact ⟨h.1,hk _ h.2⟩
  ·rename_i e
   rw [if_neg e]
   cases op<;>first | exact h.elim | exact ⟨h.1,hk _ h.2⟩
 ·split at h<;>first | exact hk _ h | exact h.elim
 ·split at h<;>first | exact hk _ h | exact h.elim
 ·split at h<;>first | exact hk _ h | exact h.elim
 ·exact h.elim
theorem IT {P:Program} {o:Op} {ρ:Operand->Value} {σ:Hp} {k k':Value->Prop} (hk:∀ v,k v->k' v) (h:lY P o ρ σ k):lY P o ρ σ k':=by
 cases o<;>simp only [lY] at h ⊢
 case move x=>exact hk _ h
 case assign x=>exact hk _ h
 case makeFunc fn f c=>exact hk _ h
 case binOp op t x y u=>exact WQ hk h
 case pick c a b=>split at h<;>first | exact hk _ h | exact h.elim
 case nilCheck x=>
  split at h<;>first | exact F7 (fun _ _ h=>hk _ h) h | exact hk _ h | exact h.elim
 case fieldAddr s x f=>
  split at h<;>first | exact h.elim | skip
  split at h<;>first | exact h.elim | exact F7 (fun _ _ h=>hk _ h) h
 case load t x=>
  split at h<;>first | exact h.elim | skip
  refine F7 (fun _ _ h=>?_) h
  split at h
  ·split at h<;>first | exact h.elim | exact K5 (fun _ hv=>hk _ hv) h
  ·split at h<;>first | exact h.elim | exact Le hk h
 case field t x f=>
  split at h<;>first | exact h.elim | skip
  split at h<;>first | exact h.elim | skip
  split at h
  ·exact hk _ h
  ·split at h<;>first | exact h.elim | exact hk _ h
 case indexAddr t x i=>
  split at h<;>first | exact h.elim | skip
  ·split at h<;>first | exact h.elim | exact F7 (fun _ _ h=>⟨h.1,h.2.1,hk _ h.2.2⟩) h
  ·split at h<;>first | exact h.elim | exact F7 (fun _ _ h=>⟨h.1,h.2.1,hk _ h.2.2⟩) h
 case index t x i=>
  split at h<;>first | exact h.elim | skip
  split at h<;>first | exact h.elim | exact ⟨h.1,h.2.1,Zs hk h.2.2⟩
 case unOp op t x=>
  cases op<;>simp only [] at h ⊢
  all_goals (split at h<;>first | exact hk _ h | exact h.elim)
 case convert s d x=>split at h<;>first | exact hk _ h | exact h.elim
 case build t parts=>split at h<;>first | exact hk _ h | exact h.elim
 case extract x i=>
  split at h<;>first | exact h.elim | skip
  split at h<;>first | exact h.elim | exact hk _ h
 case makeInterface t x=>split at h<;>first | exact hk _ h | exact h.elim
 case slice t x lo hi mx=>
  cases mx<;>simp only [] at h ⊢
  split at h<;>first | exact h.elim | skip
  split at h<;>first | exact h.elim | skip
  split at h<;>first | exact hk _ h | exact ⟨h.1,h.2.1,hk _ h.2.2⟩ | exact ⟨h.1,h.2.1,h.2.2.1,hk _ h.2.2.2⟩ | exact h.elim
 case call c=>
  obtain ⟨callee,args,argTypes⟩:=c
  cases callee
  case value f=>exact h
  case invoke r m=>exact h
  case builtin bi=>
   cases bi<;>simp only [] at h ⊢
   case len=>
    split at h<;>first | exact h.elim | skip
    split at h<;>first | exact hk _ h | exact h.elim
   case cap=>
    split at h<;>first | exact h.elim | skip
    split at h<;>first | exact hk _ h | exact h.elim
   case min=>split at h<;>first | exact hk _ h | exact h.elim
   case max=>split at h<;>first | exact hk _ h | exact h.elim
theorem NM {b off:Nat} {K K':Hp->Prop} (hk:∀ σ,K σ->K' σ):∀ {vs:List Value} {i:Nat} {σ:Hp},stc σ b off i vs K->stc σ b off i vs K'
 | [],_,_,h=>hk _ h
 | _::_,_,_,h=>DA.2 ⟨(DA.1 h).1,(DA.1 h).2.1,NM hk (DA.1 h).2.2⟩
theorem Vq {P:Program} {o:Oper} {ρ:Operand->Value} {σ:Hp} {K K':Value->Hp->Prop} (hk:∀ v σ,K v σ->K' v σ) (h:lE P o ρ σ K):lE P o ρ σ K':=by
 obtain ⟨dst,op,ty,pos,after,guard⟩:=o
 cases op<;>simp only [lE] at h ⊢
 case box e x=>exact fun b hb=>hk _ _ (h b hb)
 case alloc e=>split at h<;>first | exact fun b hb=>hk _ _ (h b hb) | exact h.elim
 case store t x v=>
  split at h<;>first | exact h.elim | exact F7 (fun _ _ h=>NM (fun _ h=>hk _ _ h) h) h
 case buildSlice t len parts=>
  split at h<;>first | exact h.elim | skip
  split at h<;>first | exact h.elim | skip
  split at h<;>first | exact h.elim | skip
  ·split at h<;>first | exact h.elim | exact fun b hb=>hk _ _ (h b hb)
  ·split at h<;>first | exact h.elim | exact fun b hb=>hk _ _ (h b hb)
 case makeSlice t l c=>
  split at h<;>first | exact h.elim | skip
  split at h<;>first | exact h.elim | skip
  split at h<;>first | exact h.elim | exact ⟨h.1,h.2.1,h.2.2.1,fun b hb=>hk _ _ (h.2.2.2 b hb)⟩
 case makeMap t r=>
  cases r<;>simp only at h ⊢
  exact fun b hb=>hk _ _ (h b hb)
 case mapUpdate t m k x=>exact Ba _ _ (fun _ _ h=>hk _ _ h) h
 case insert t m k x=>exact Ba _ _ (fun _ _ h=>hk _ _ h) h
 case lookup t x i ok=>
  refine Cq _ _ (fun v h=>?_) h
  cases ok
  ·exact hk _ _ h
  ·obtain ⟨u,t,e,h⟩:=h
   exact ⟨u,t,e,hk _ _ h⟩
 case range t x=>exact Ba _ _ (fun _ _ ⟨b,e,h⟩=>⟨b,e,hk _ _ h⟩) h
 case next it s=>exact Ba _ _ (fun _ _ ⟨t,vs,e,h⟩=>⟨t,vs,e,hk _ _ h⟩) h
 case entry it=>exact Cq _ _ (fun _ ⟨k,u,e,h⟩=>⟨k,u,e,hk _ _ h⟩) h
 case typeAssert x xt t ok=>
  cases ok<;>simp only at h ⊢
  exact Cq _ _ (fun _ h=>hk _ _ h) h
 case call c=>
  obtain ⟨callee,args,argTypes⟩:=c
  cases callee
  case invoke r m=>
   simp only [] at h ⊢
   split at h<;>first | exact h.elim | skip
   obtain ⟨f,rv,h1,h2,h3⟩:=h
   exact ⟨f,rv,h1,h2,h3.mono fun v σ' hv=>NF (fun u hu=>hk _ _ hu) hv⟩
  case value f=>exact Ra.mono (h:Ra P _ _ _ _) fun v σ' hv=>NF (fun u hu=>hk _ _ hu) hv
  case builtin bi=>
   cases bi<;>simp only [] at h ⊢
   case append=>exact Ba _ _ (fun v σ' ⟨A,n,c,e,h⟩=>⟨A,n,c,e,hk _ _ h⟩) h
   case copy=>exact Ba _ _ (fun v σ' ⟨n,e,h⟩=>⟨n,e,hk _ _ h⟩) h
   case clear=>exact Ba _ _ (fun v σ' ⟨e,h⟩=>⟨e,hk _ _ h⟩) h
theorem FA {P:Program} {o:Oper} {ρ:Operand->Value} {σ:Hp} {K K':Value->Hp->Prop} (hk:∀ v σ,K v σ->K' v σ) (h:lOp P o ρ σ K):lOp P o ρ σ K':=by
 unfold lOp at h ⊢
 split at h
 ·exact IT (fun v hv=>hk _ _ hv) h
 ·exact Vq hk h
theorem Ca {α β:Type} {f g:α->β} {l:List α} (h:∀ x∈l,f x=g x):l.map f=l.map g:=List.map_congr_left h
theorem M8 {α β:Type} {f g:α->β} {o:Option α} (h:∀ x,o=some x->f x=g x):o.map f=o.map g:=by
 cases o with
 | none=>rfl
 | some x=>simp [h x rfl]
theorem QG {P:Program} {o:Op} {ρ ρ':Operand->Value} {σ:Hp} {k:Value->Prop} (h:∀ x∈o.operands.toList,ρ x=ρ' x) (hl:lY P o ρ σ k):lY P o ρ' σ k:=by
 cases o
 case move x=>have e:=h x (by simp [Op.operands]);unfold lY at hl ⊢;simp only [e] at hl;exact hl
 case assign x=>have e:=h x (by simp [Op.operands]);unfold lY at hl ⊢;simp only [e] at hl;exact hl
 case pick c a b=>
  have e1:=h c (by simp [Op.operands]);have e2:=h a (by simp [Op.operands]);have e3:=h b (by simp [Op.operands])
  unfold lY at hl ⊢;simp only [e1,e2,e3] at hl;exact hl
 case nilCheck x=>have e:=h x (by simp [Op.operands]);unfold lY at hl ⊢;simp only [e] at hl;exact hl
 case fieldAddr s x f=>have e:=h x (by simp [Op.operands]);unfold lY at hl ⊢;simp only [e] at hl;exact hl
 case load t x=>have e:=h x (by simp [Op.operands]);unfold lY at hl ⊢;simp only [e] at hl;exact hl
 case field t x f=>have e:=h x (by simp [Op.operands]);unfold lY at hl ⊢;simp only [e] at hl;exact hl
 case indexAddr t x i=>
  have e1:=h x (by simp [Op.operands]);have e2:=h i (by simp [Op.operands])
  unfold lY at hl ⊢;simp only [e1,e2] at hl;exact hl
 case index t x i=>
  have e1:=h x (by simp [Op.operands]);have e2:=h i (by simp [Op.operands])
  unfold lY at hl ⊢;simp only [e1,e2] at hl;exact hl
 case binOp op t x y u=>
  have e1:=h x (by simp [Op.operands]);have e2:=h y (by simp [Op.operands])
  unfold lY at hl ⊢;simp only [e1,e2] at hl;exact hl
 case unOp op t x=>have e:=h x (by simp [Op.operands]);unfold lY at hl ⊢;cases op<;>simp only [e] at hl<;>exact hl
 case convert s d x=>have e:=h x (by simp [Op.operands]);unfold lY at hl ⊢;simp only [e] at hl;exact hl
 case build t parts=>
  have e:parts.toList.map (fun (p:Nat×Operand)=>(p.1,ρ p.2))=parts.toList.map (fun p=>(p.1,ρ' p.2)):=Ca fun p hp=>by
   rw [h p.2 (by simp only [Op.operands];exact List.mem_map_of_mem hp)]
  unfold lY at hl ⊢;simp only [e] at hl;exact hl
 case extract x i=>have e:=h x (by simp [Op.operands]);unfold lY at hl ⊢;simp only [e] at hl;exact hl
 case makeInterface t x=>have e:=h x (by simp [Op.operands]);unfold lY at hl ⊢;simp only [e] at hl;exact hl
 case makeFunc fn first caps=>
  have e1:C1 ρ first=C1 ρ' first:=by unfold C1;rw [Ca fun x hx=>h x (by simp [Op.operands];exact .inl (by simpa using hx))]
  have e2:C1 ρ caps=C1 ρ' caps:=by unfold C1;rw [Ca fun x hx=>h x (by simp [Op.operands];exact .inr (by simpa using hx))]
  unfold lY at hl ⊢;simp only [e1,e2] at hl;exact hl
 case slice t x lo hi mx=>
  have e1:=h x (by simp [Op.operands])
  have e2:lo.map ρ=lo.map ρ':=M8 fun y hy=>h y (by subst hy;simp [Op.operands])
  have e3:hi.map ρ=hi.map ρ':=M8 fun y hy=>h y (by subst hy;simp [Op.operands])
  cases mx with
  | none=>unfold lY at hl ⊢;simp only [e1,e2,e3] at hl;exact hl
  | some m=>exact hl.elim
 case call c=>
  obtain ⟨callee,args,ts⟩:=c
  cases callee
  case builtin b=>
   have e:args.toList.map ρ=args.toList.map ρ':=Ca fun x hx=>h x (by simp [Op.operands,Call.operands];simpa using hx)
   cases b<;>first | exact hl.elim | skip
   case len=>
    unfold lY at hl ⊢
    try (simp only at hl ⊢)
    split at hl<;>first | exact hl.elim | skip
    rename_i x t ha ht
    rw [ha] at e
    simp only [List.map_cons,List.map_nil,List.cons.injEq,and_true] at e
    rw [← e]
    exact hl
   case cap=>
    unfold lY at hl ⊢
    try (simp only at hl ⊢)
    split at hl<;>first | exact hl.elim | skip
    rename_i x t ha ht
    rw [ha] at e
    simp only [List.map_cons,List.map_nil,List.cons.injEq,and_true] at e
    rw [← e]
    exact hl
   case min=>unfold lY at hl ⊢;simp only [e] at hl;exact hl
   case max=>unfold lY at hl ⊢;simp only [e] at hl;exact hl
  all_goals exact hl.elim
 all_goals exact hl.elim
theorem NE {P:Program} {o:Oper} {ρ ρ':Operand->Value} {σ:Hp} {K:Value->Hp->Prop} (h:∀ x∈o.op.operands.toList,ρ x=ρ' x) (hl:lE P o ρ σ K):lE P o ρ' σ K:=by
 obtain ⟨dst,op,ty,pos,after,guard⟩:=o
 cases op
 case box e x=>have e:=h x (by simp [Op.operands]);unfold lE at hl ⊢;simp only [e] at hl;exact hl
 case alloc e=>exact hl
 case buildSlice t len parts=>
  have e:parts.toList.map (fun (p:Nat×Operand)=>(p.1,ρ p.2))=parts.toList.map (fun p=>(p.1,ρ' p.2)):=Ca fun p hp=>by
   rw [h p.2 (by simp only [Op.operands];exact List.mem_map_of_mem hp)]
  unfold lE at hl ⊢;simp only [e] at hl;exact hl
 case store t x v=>
  have e1:=h x (by simp [Op.operands]);have e2:=h v (by simp [Op.operands])
  unfold lE at hl ⊢;simp only [e1,e2] at hl;exact hl
 case makeSlice t l c=>
  have e1:=h l (by simp [Op.operands]);have e2:=h c (by simp [Op.operands])
  unfold lE at hl ⊢;simp only [e1,e2] at hl;exact hl
 case makeMap t r=>cases r<;>exact hl
 case mapUpdate t m k x=>
  have e1:=h m (by simp [Op.operands]);have e2:=h k (by simp [Op.operands]);have e3:=h x (by simp [Op.operands])
  unfold lE at hl ⊢;simp only [e1,e2,e3] at hl;exact hl
 case insert t m k x=>
  have e1:=h m (by simp [Op.operands]);have e2:=h k (by simp [Op.operands]);have e3:=h x (by simp [Op.operands])
  unfold lE at hl ⊢;simp only [e1,e2,e3] at hl;exact hl
 case lookup t x i ok=>
  have e1:=h x (by simp [Op.operands]);have e2:=h i (by simp [Op.operands])
  unfold lE at hl ⊢;simp only [e1,e2] at hl;exact hl
 case range t x=>have e:=h x (by simp [Op.operands]);unfold lE at hl ⊢;simp only [e] at hl;exact hl
 case next it s=>have e:=h it (by simp [Op.operands]);unfold lE at hl ⊢;simp only [e] at hl;exact hl
 case entry it=>have e:=h it (by simp [Op.operands]);unfold lE at hl ⊢;simp only [e] at hl;exact hl
 case typeAssert x xt t ok=>have e:=h x (by simp [Op.operands]);cases ok<;>(unfold lE at hl ⊢;first | exact hl.elim | (simp only [e] at hl;exact hl))
 case call c=>
  obtain ⟨callee,args,ts⟩:=c
  cases callee
  case invoke f m=>
   have e1:=h f (by simp [Op.operands,Call.operands])
   have e2:C1 ρ args=C1 ρ' args:=by unfold C1;rw [Ca fun x hx=>h x (by simp [Op.operands,Call.operands];exact .inr (by simpa using hx))]
   unfold lE at hl ⊢;simp only [e1,e2] at hl;exact hl
  case value f=>
   have e1:=h f (by simp [Op.operands,Call.operands])
   have e2:C1 ρ args=C1 ρ' args:=by unfold C1;rw [Ca fun x hx=>h x (by simp [Op.operands,Call.operands];exact .inr (by simpa using hx))]
   unfold lE at hl ⊢;simp only [e1,e2] at hl;exact hl
  case builtin b=>
   have e2:C1 ρ args=C1 ρ' args:=by unfold C1;rw [Ca fun x hx=>h x (by simp [Op.operands,Call.operands];simpa using hx)]
   cases b<;>first | exact hl.elim | (unfold lE at hl ⊢;simp only [e2] at hl;exact hl)
  all_goals exact hl.elim
 all_goals exact hl.elim
def FS:Op->Bool
 | .load ..=>true
 | _=>false
theorem Nm {P:Program} {o:Op} {ρ:Operand->Value} {σ σ':Hp} {k:Value->Prop} (hl:FS o=false) (h:lY P o ρ σ k):lY P o ρ σ' k:=by
 cases o<;>first | exact h | (simp [FS] at hl;done) | skip
 case unOp op t x=>cases op<;>exact h
 case slice t x lo hi mx=>cases mx<;>exact h
 case call c=>
  obtain ⟨callee,args,argTypes⟩:=c
  cases callee<;>first | exact h | skip
  case builtin bi=>cases bi<;>exact h
theorem Ul {σ σc:Hp} (hs:Hp.Sub σ σc) {s:Sh} {b off:Nat} {k:Value->Prop} (h:lf σ s b off k):lf σc s b off k:=by
 have cel:∀ {a:Addr} {v:Value},σ.cell? a=some v->σc.cell? a=some v:=by
  intro a v h
  unfold Hp.cell? at h ⊢
  split at h
  ·rename_i e;rw [hs _ _ e];exact h
  ·cases h
 cases s<;>simp only [lf] at h ⊢
 all_goals first
  | (obtain ⟨x,h1,h2⟩:=h;exact ⟨x,cel h1,h2⟩)
  | (obtain ⟨A,n,c,h1,h2⟩:=h;exact ⟨A,n,c,cel h1,h2⟩)
theorem Sy {σ σc:Hp} (hs:Hp.Sub σ σc) {b off:Nat}:∀ {ss:List Sh} {i:Nat} {k:List Value->Prop},lfs σ ss b off i k->lfs σc ss b off i k
 | [],_,_,h=>h
 | _::_,_,_,h=>Ul hs (Le (fun _ h=>Sy hs h) h)
theorem XD {P:Program} {o:Op} {ρ:Operand->Value} {σ σc:Hp} {k:Value->Prop} (hs:Hp.Sub σ σc) (h:lY P o ρ σ k):lY P o ρ σc k:=by
 cases hl:FS o with
 | false=>exact Nm hl h
 | true=>
  cases o<;>first | cases hl | skip
  unfold lY at h ⊢
  try (simp only at h ⊢)
  split at h<;>first | exact h.elim | skip
  refine F7 (fun b off h=>?_) h
  split at h
  ·split at h<;>first | exact h.elim | exact Sy hs h
  ·split at h<;>first | exact h.elim | exact Ul hs h
def Lz (σ:Hp):Prop:=∀ n:Nat,∃ b,n<=b/\σ b=none
theorem Lz.ins {σ:Hp} (h:Lz σ) (b:Nat) (o:Obj):Lz (σ.ins b o):=fun n=>by
 obtain ⟨c,h1,h2⟩:=h (n+b+1)
 refine ⟨c,by omega,?_⟩
 unfold Hp.ins
 rw [if_neg (by omega)]
 exact h2
theorem TG {σ:Hp} {a:Addr} {v:Value} {b:Nat}:σ.put a v b=none↔σ b=none:=by
 unfold Hp.put
 split
 ·rename_i e
  subst e
  cases h:σ a.block with
  | none=>simp
  | some x=>
   obtain ⟨o,rw⟩:=x
   cases o<;>simp
 ·rfl
theorem Lz.put {σ:Hp} (h:Lz σ) (a:Addr) (v:Value):Lz (σ.put a v):=fun n=>by
 obtain ⟨c,h1,h2⟩:=h n
 exact ⟨c,h1,TG.2 h2⟩
theorem Sat.room {B:Nat} {w0 w:World} {M:List Nat} {σ:Hp} (h:Sat B w0 M σ w):Lz σ:=fun n=>by
 refine ⟨n+w.heap.size,by omega,?_⟩
 cases e:σ (n+w.heap.size) with
 | none=>rfl
 | some x=>
  obtain ⟨o,rw⟩:=x
  have:=(h.holds _ _ _ e).1
  rw [Array.getElem?_eq_none (by omega)] at this
  cases this
theorem ins_ne {σ:Hp} {b k:Nat} {o:Obj} (h:k≠b):σ.ins b o k=σ k:=by
 unfold Hp.ins
 rw [if_neg h]
theorem RO {σ:Hp} {b c:Nat} {o u:Obj} (h:b≠c):(σ.ins b o).ins c u=(σ.ins c u).ins b o:=by
 funext k
 unfold Hp.ins
 by_cases h1:k=c
 ·rw [if_pos h1,if_neg (by omega),if_pos h1]
 ·rw [if_neg h1,if_neg h1]
theorem Zw {σ:Hp} {b:Nat} {o:Obj} {a:Addr} {v:Value} (h:a.block≠b):(σ.ins b o).put a v=(σ.put a v).ins b o:=by
 funext k
 simp only [Hp.ins,Hp.put]
 by_cases h1:k=b
 ·rw [if_neg (by omega),if_pos h1,if_pos h1]
 ·rw [if_neg h1,if_neg h1]
theorem Ir {σ:Hp} {b:Nat} {o:Obj} {a:Addr} (h:a.block≠b):(σ.ins b o).cell? a=σ.cell? a:=by
 unfold Hp.cell?
 rw [ins_ne h]
theorem RS {σ:Hp} {a:Addr} {v:Value} (h:σ.cell? a=some v):σ a.block≠none:=fun e=>by
 unfold Hp.cell? at h
 rw [e] at h
 cases h
theorem Yg {α:Type} {P:Program} {ob:Obj} (s:Sem α):∀ {σ:Hp} {K:Nat->α->Hp->Prop},Lz σ->(∀ b,σ b=none->swp P s (K b) (σ.ins b ob))->swp P s (fun x σ'=>Lz σ'/\∀ b,σ' b=none->K b x (σ'.ins b ob)) σ:=by
 induction s with
 | pure a=>intro σ K hr h;exact ⟨hr,h⟩
 | load m a k ih=>
  intro σ K hr h
  obtain ⟨b0,hb0,hf⟩:=hr (a.block+1)
  obtain ⟨v,hv,_⟩:=h b0 hf
  rw [Ir (by omega)] at hv
  refine ⟨v,hv,ih v hr fun b hb=>?_⟩
  obtain ⟨u,hu,hk⟩:=h b hb
  rw [Ir (fun e=>RS hv (e▸hb)),hv] at hu
  cases hu
  exact hk
 | store m a v k ih=>
  intro σ K hr h
  obtain ⟨b0,hb0,hf⟩:=hr (a.block+1)
  obtain ⟨h1,⟨c,e,hc,hlt,hsp⟩,_⟩:=h b0 hf
  rw [ins_ne (by omega)] at hc
  refine ⟨h1,⟨c,e,hc,hlt,hsp⟩,ih (hr.put a v) fun b hb=>?_⟩
  have hb:=TG.1 hb
  have hne:a.block≠b:=fun e=>by rw [e,hb] at hc;cases hc
  have:=(h b hb).2.2
  rw [Zw hne] at this
  exact this
 | new o k ih=>
  intro σ K hr h b' hb'
  refine ih b' (hr.ins b' o) fun b hb=>?_
  have hne:b≠b':=fun e=>by rw [e] at hb;unfold Hp.ins at hb;rw [if_pos rfl] at hb;cases hb
  rw [ins_ne hne] at hb
  have:=h b hb b' (by rw [ins_ne (Ne.symm hne)];exact hb')
  rw [RO hne] at this
  exact this
 | shape r k ih=>
  intro σ K hr h
  obtain ⟨b0,hb0,hf⟩:=hr (r+1)
  obtain ⟨o,rw',hv,_⟩:=h b0 hf
  rw [ins_ne (by omega)] at hv
  refine ⟨o,rw',hv,ih _ hr fun b hb=>?_⟩
  obtain ⟨u,rw2,hu,hk⟩:=h b hb
  rw [ins_ne (fun e=>by rw [e,hb] at hv;cases hv),hv] at hu
  cases hu
  exact hk
 | freeze a n k ih=>
  intro σ K hr h
  obtain ⟨b0,_,hf⟩:=hr 0
  exact (h b0 hf).elim
 | frozen a k ih=>
  intro σ K hr h
  obtain ⟨b0,hb0,hf⟩:=hr (a.block+1)
  obtain ⟨o,rw',hv,_⟩:=h b0 hf
  rw [ins_ne (by omega)] at hv
  refine ⟨o,rw',hv,ih _ hr fun b hb=>?_⟩
  obtain ⟨u,rw2,hu,hk⟩:=h b hb
  rw [ins_ne (fun e=>by rw [e,hb] at hv;cases hv),hv] at hu
  cases hu
  exact hk
 | getObj r k ih=>
  intro σ K hr h
  obtain ⟨b0,hb0,hf⟩:=hr (r+1)
  obtain ⟨o,rw',hv,hc,_⟩:=h b0 hf
  rw [ins_ne (by omega)] at hv
  refine ⟨o,rw',hv,hc,ih _ hr fun b hb=>?_⟩
  obtain ⟨u,rw2,hu,_,hk⟩:=h b hb
  rw [ins_ne (fun e=>by rw [e,hb] at hv;cases hv),hv] at hu
  cases hu
  exact hk
 | setObj r o k ih=>
  intro σ K hr h
  obtain ⟨b0,hb0,hf⟩:=hr (r+1)
  obtain ⟨o',hv,hc,_⟩:=h b0 hf
  rw [ins_ne (by omega)] at hv
  refine ⟨o',hv,hc,ih (hr.ins r o) fun b hb=>?_⟩
  have hne:b≠r:=fun e=>by rw [e] at hb;unfold Hp.ins at hb;rw [if_pos rfl] at hb;cases hb
  rw [ins_ne hne] at hb
  obtain ⟨_,_,_,hk⟩:=h b hb
  rw [RO hne] at hk
  exact hk
 | choose q k ih=>intro σ K hr h t;exact ih _ hr fun b hb=>h b hb t
 | sys c k ih=>
  intro σ K hr h
  obtain ⟨b0,_,hf⟩:=hr 0
  exact (h b0 hf).elim
 | program k ih=>intro σ K hr h;exact ih _ hr h
 | mark m k ih=>intro σ K hr h;exact ih hr h
 | halt x=>
  intro σ K hr h
  obtain ⟨b0,_,hf⟩:=hr 0
  exact (h b0 hf).elim
theorem ZH {v:Option Value} {s:Sh} {k:Value->Prop} (h:lv v s k):∃ u,k u/\lv v s fun x=>x=u:=by
 cases s<;>simp only [lv] at h ⊢
 all_goals first
  | (obtain ⟨x,h1,h2⟩:=h;exact ⟨_,h2,x,h1,rfl⟩)
  | (obtain ⟨A,n,c,h1,h2⟩:=h;exact ⟨_,h2,A,n,c,h1,rfl⟩)
theorem Wu {P:Program} {op:BinOp} {t:TypeId} {x y:Value} {k:Value->Prop} (h:Qe P op t x y k):∃ u,k u/\Qe P op t x y fun v=>v=u:=by
 unfold Qe at h ⊢
 split at h
 ·split at h
  ·rename_i e;subst e
   simp only [if_true]
   cases op<;>first | exact ⟨_,h,rfl⟩ | exact ⟨_,h.2,h.1,rfl⟩
  ·rename_i e
   simp only [if_neg e]
   cases op<;>first | exact h.elim | exact ⟨_,h.2,h.1,rfl⟩
 ·split at h<;>first | exact ⟨_,h,rfl⟩ | exact h.elim
 ·split at h<;>first | exact ⟨_,h,rfl⟩ | exact h.elim
 ·split at h<;>first | exact ⟨_,h,rfl⟩ | exact h.elim
 ·exact h.elim
theorem VC {P:Program} {o:Op} {ρ:Operand->Value} {σ:Hp} {k:Value->Prop} (hl:FS o=false) (h:lY P o ρ σ k):∃ u,k u/\lY P o ρ σ fun v=>v=u:=by
 cases o<;>simp only [lY] at h ⊢
 case move x=>exact ⟨_,h,rfl⟩
 case assign x=>exact ⟨_,h,rfl⟩
 case makeFunc fn f c=>exact ⟨_,h,rfl⟩
 case binOp op t x y u=>exact Wu h
 case pick c a b=>split at h<;>first | exact ⟨_,h,rfl⟩ | exact h.elim
 case nilCheck x=>
  split at h<;>first | (obtain ⟨b,o,e,h⟩:=Hb h;exact ⟨_,h,Jt.2 ⟨b,o,e,rfl⟩⟩) | exact ⟨_,h,rfl⟩ | exact h.elim
 case fieldAddr s x f=>
  split at h<;>first | exact h.elim | skip
  split at h<;>first | exact h.elim | (obtain ⟨b,o,e,h⟩:=Hb h;exact ⟨_,h,Jt.2 ⟨b,o,e,rfl⟩⟩)
 case load t x=>cases hl
 case field t x f=>
  split at h<;>first | exact h.elim | skip
  split at h<;>first | exact h.elim | skip
  split at h
  ·exact ⟨_,h,rfl⟩
  ·split at h<;>first | exact h.elim | exact ⟨_,h,rfl⟩
 case indexAddr t x i=>
  split at h<;>first | exact h.elim | skip
  ·split at h<;>first | exact h.elim | (obtain ⟨b,o,e,h⟩:=Hb h;exact ⟨_,h.2.2,Jt.2 ⟨b,o,e,h.1,h.2.1,rfl⟩⟩)
  ·split at h<;>first | exact h.elim | (obtain ⟨b,o,e,h⟩:=Hb h;exact ⟨_,h.2.2,Jt.2 ⟨b,o,e,h.1,h.2.1,rfl⟩⟩)
 case index t x i=>
  split at h<;>first | exact h.elim | skip
  split at h<;>first | exact h.elim | (obtain ⟨u,h1,h2⟩:=ZH h.2.2;exact ⟨u,h1,h.1,h.2.1,h2⟩)
 case unOp op t x=>
  cases op<;>simp only [] at h ⊢
  all_goals (split at h<;>first | exact ⟨_,h,rfl⟩ | exact h.elim)
 case convert s d x=>split at h<;>first | exact ⟨_,h,rfl⟩ | exact h.elim
 case build t parts=>split at h<;>first | exact ⟨_,h,rfl⟩ | exact h.elim
 case extract x i=>
  split at h<;>first | exact h.elim | skip
  split at h<;>first | exact h.elim | exact ⟨_,h,rfl⟩
 case makeInterface t x=>split at h<;>first | exact ⟨_,h,rfl⟩ | exact h.elim
 case slice t x lo hi mx=>
  cases mx<;>simp only [] at h ⊢
  split at h<;>first | exact h.elim | skip
  split at h<;>first | exact h.elim | skip
  split at h<;>first | exact ⟨_,h,rfl⟩ | exact ⟨_,h.2.2,h.1,h.2.1,rfl⟩ | exact ⟨_,h.2.2.2,h.1,h.2.1,h.2.2.1,rfl⟩ | exact h.elim
 case call c=>
  obtain ⟨callee,args,argTypes⟩:=c
  cases callee
  case value f=>exact h.elim
  case invoke r m=>exact h.elim
  case builtin bi=>
   cases bi<;>simp only [] at h ⊢
   case len=>
    split at h<;>first | exact h.elim | skip
    split at h<;>first | exact ⟨_,h,rfl⟩ | exact h.elim
   case cap=>
    split at h<;>first | exact h.elim | skip
    split at h<;>first | exact ⟨_,h,rfl⟩ | exact h.elim
   case min=>split at h<;>first | exact ⟨_,h,rfl⟩ | exact h.elim
   case max=>split at h<;>first | exact ⟨_,h,rfl⟩ | exact h.elim
   all_goals exact h.elim
 all_goals exact h.elim
section
variable {P:Program} {ob:Obj} {σ:Hp}
theorem ZZ {s:Sh} {blk off:Nat} {k:Nat->Value->Prop} (hr:Lz σ) (h:∀ b,σ b=none->lf (σ.ins b ob) s blk off (k b)):lf σ s blk off fun v=>∀ b,σ b=none->k b v:=by
 obtain ⟨b0,hb0,hf⟩:=hr (blk+1)
 have h0:=h b0 hf
 cases s<;>simp only [lf] at h h0 ⊢
 all_goals first
  | (
    obtain ⟨x,hc,_⟩:=h0
    rw [Ir (a:=⟨blk,off,none⟩) (by show blk≠b0;omega)] at hc
    refine ⟨x,hc,fun b hb=>?_⟩
    obtain ⟨y,hy,hk⟩:=h b hb
    rw [Ir (fun e=>RS hc (e▸hb)),hc] at hy
    cases hy
    exact hk)
  | (
    obtain ⟨A,n,c,hc,_⟩:=h0
    rw [Ir (a:=⟨blk,off,none⟩) (by show blk≠b0;omega)] at hc
    refine ⟨A,n,c,hc,fun b hb=>?_⟩
    obtain ⟨A',n',c',hy,hk⟩:=h b hb
    rw [Ir (fun e=>RS hc (e▸hb)),hc] at hy
    cases hy
    exact hk)
theorem XR {blk off:Nat} (hr:Lz σ):∀ {ss:List Sh} {i:Nat} {k:Nat->List Value->Prop},(∀ b,σ b=none->lfs (σ.ins b ob) ss blk off i (k b))->lfs σ ss blk off i fun vs=>∀ b,σ b=none->k b vs
 | [],_,_,h=>h
 | _::_,_,_,h=>Le (fun _ hv=>XR hr hv) (ZZ hr h)
theorem Aaa {o:Oper} {ρ:Operand->Value} {k:Nat->Value->Prop} {B:Nat->Prop} (hl:FS o.op=false) (hB:∃ b,B b) (h:∀ b,B b->lY P o.op ρ σ (k b)):lY P o.op ρ σ fun v=>∀ b,B b->k b v:=by
 obtain ⟨b0,h0⟩:=hB
 obtain ⟨v0,_,hr0⟩:=UK (o:=o) (Nm (σ':=fun _=>none) hl (h b0 h0))
 have hw:∀ w,Ss (fun _=>none) w:=fun w b o rw e=>by cases e
 have key:∀ {k':Value->Prop},lY P o.op ρ σ k'->k' v0:=fun {k'} h'=>by
  obtain ⟨v,hv,hr⟩:=UK (o:=o) (Nm (σ':=fun _=>none) hl h')
  have e1:=hr0 default (hw _)
  have e2:=hr default (hw _)
  rw [e1] at e2
  injection e2 with e3
  injection e3 with e4
  subst e4
  exact hv
 have hs:lY P o.op ρ σ fun v=>v=v0:=by
  have:=VC hl (h b0 h0)
  obtain ⟨v,_,h1⟩:=this
  have:=key h1
  subst this
  exact h1
 exact IT (fun v e b hb=>by subst e;exact key (h b hb)) hs
end
def isG (ops:Array Oper) (i:Nat):Bool:=ops.any fun o=>match o.guard with | some (j,_)=>j==i | none=>false
def gsp (ops:Array Oper) (i:Nat) (v:Value) (k:Value->Prop):Prop:=
 match isG ops i with
 | true=>match v with
  | .bool b=>bc b (k (.bool true)) (k (.bool false))
  | v=>k v
 | false=>k v
theorem Gp {ops:Array Oper} {i:Nat} {v:Value} {k:Value->Prop} (h:gsp ops i v k):k v:=by
 unfold gsp at h
 split at h
 ·split at h
  ·rename_i b
   cases b
   ·exact h
   ·exact h
  ·exact h
 ·exact h
def B9 (P:Program) (ops:Array Oper) (i:Nat) (K:Act->Hp->Prop) (a:Act) (σ:Hp):Prop:=
 match ops[i]? with
 | none=>K a σ
 | some o=>match Region.wanted o (yielded ops a.tmps) with
  | true=>lOp P o a.eval σ fun v σ'=>gsp ops i v fun u=>K (a.put o.dst u) σ'
  | false=>K (a.put o.dst undef) σ
def Wh (P:Program) (ops:Array Oper) (Q:Act->Hp->Prop):List Nat->Act->Hp->Prop
 | [],a,σ=>Q a σ
 | i::rest,a,σ=>B9 P ops i (Wh P ops Q rest) a σ
def markD (m:Nat):Deferred:={ target:=.collected m,args:=#[] }
def LQ (B:Nat) (w0:World) (M:List Nat) (Q:Exit->Act->Hp->Prop):Exit->Act->World->Prop
 | .panic _,_,_=>False
 | .outgrown,_,_=>False
 | e,a,w=>∃ ms σ,Sat B w0 (ms++M) σ w/\a.defers=ms.map markD/\Q e ⟨a.tmps,[]⟩ σ
theorem Oa (a:Act) (ds:List Deferred):(⟨a.tmps,ds⟩:Act).eval=a.eval:=by
 funext x
 cases x<;>rfl
theorem SQ (a:Act) (ds:List Deferred) (d:Option Tmp) (v:Value):(⟨a.tmps,ds⟩:Act).put d v=⟨(a.put d v).tmps,ds⟩:=by
 cases d<;>rfl
theorem P8 (a:Act) (d:Option Tmp) (v:Value):(a.put d v).defers=a.defers:=by
 cases d<;>rfl
theorem QJ {P:Program} {r:Option Nat} {B:Nat} {w0:World} {M:List Nat} {ops:Array Oper} {i:Nat} {K:Act->Hp->Prop} {next:Act->World->Prop} {Q:Exit->Act->World->Prop} {a:Act} {σ:Hp} {w:World}
  (h:B9 P ops i K ⟨a.tmps,[]⟩ σ) (hs:Sat B w0 M σ w) (hk:∀ a' σ' w',a'.defers=a.defers->K ⟨a'.tmps,[]⟩ σ'->Sat B w0 M σ' w'->next a' w'):wpOpIn (FW r) 0 P ops Q i next a w:=by
 unfold B9 at h
 unfold wpOpIn
 split at h
 ·rename_i e;rw [e];exact hk _ _ _ rfl h hs
 ·rename_i o e
  rw [e]
  split at h
  ·rename_i hw
   simp only at hw
   simp only [hw,if_true]
   rw [Oa] at h
   refine YY h hs fun v σ' w' hv hs'=>hk _ _ _ (P8 _ _ _) ?_ hs'
   have:=Gp hv
   rw [SQ] at this
   exact this
  ·rename_i hw
   simp only at hw
   simp only [hw,Bool.false_eq_true,if_false]
   refine ⟨fun _ _=>trivial,hk _ _ _ (P8 _ _ _) ?_ hs⟩
   rw [SQ] at h
   exact h
theorem V5 {P:Program} {r:Option Nat} {B:Nat} {w0:World} {M ms:List Nat} {ops:Array Oper} {Q:Exit->Act->Hp->Prop} (l:List Nat):∀ (a:Act) (σ:Hp) (w:World),
  a.defers=ms.map markD->Wh P ops (Q .normal) l ⟨a.tmps,[]⟩ σ->Sat B w0 (ms++M) σ w->wpOpsIn (FW r) 0 P ops (LQ B w0 M Q) l a w:=by
 induction l with
 | nil=>intro a σ w hd h hs;exact ⟨ms,σ,hs,hd,h⟩
 | cons i rest ih=>
  intro a σ w hd h hs
  rw [wpOpsIn_cons]
  exact QJ h hs fun a' σ' w' hd' h' hs'=>ih a' σ' w' (hd'.trans hd) h' hs'
def Vy (ops:Array Oper):Bool:=ops.all fun o=>match o.op with
 | .defer _=>false
 | _=>true
theorem VN {σ:Hp} {s:Sh} {b off:Nat} {k:Value->Prop} (h:lf σ s b off k):∃ u,k u/\lf σ s b off fun x=>x=u:=by
 cases s<;>simp only [lf] at h ⊢
 all_goals first
  | (obtain ⟨x,h1,h2⟩:=h;exact ⟨_,h2,x,h1,rfl⟩)
  | (obtain ⟨A,n,c,h1,h2⟩:=h;exact ⟨_,h2,A,n,c,h1,rfl⟩)
theorem TT {σ:Hp} {b off:Nat}:∀ {ss:List Sh} {i:Nat} {k:List Value->Prop},lfs σ ss b off i k->∃ u,k u/\lfs σ ss b off i fun x=>x=u
 | [],_,_,h=>⟨_,h,rfl⟩
 | _::ss,i,k,h=>by
  obtain ⟨u,h1,h2⟩:=VN h
  obtain ⟨us,h3,h4⟩:=TT (ss:=ss) h1
  exact ⟨_,h3,Le (fun v e=>by subst e;exact K5 (fun vs e=>by subst e;rfl) h4) h2⟩
theorem Yz {P:Program} {o:Op} {ρ:Operand->Value} {σ:Hp} {k:Value->Prop} (h:lY P o ρ σ k):∃ u,k u/\lY P o ρ σ fun v=>v=u:=by
 cases hl:FS o with
 | false=>exact VC hl h
 | true=>
  cases o<;>first | cases hl | skip
  simp only [lY] at h ⊢
  split at h<;>first | exact h.elim | skip
  obtain ⟨b,o,e,h⟩:=Hb h
  split at h
  ·split at h<;>first | exact h.elim | skip
   obtain ⟨u,h1,h2⟩:=TT h
   exact ⟨_,h1,Jt.2 ⟨b,o,e,K5 (fun vs e=>by subst e;rfl) h2⟩⟩
  ·split at h<;>first | exact h.elim | skip
   obtain ⟨u,h1,h2⟩:=VN h
   exact ⟨_,h1,Jt.2 ⟨b,o,e,h2⟩⟩
def To:Op->Bool
 | .box ..=>true
 | .alloc _=>true
 | .buildSlice ..=>true
 | .makeSlice ..=>true
 | .makeMap _ none=>true
 | _=>false
theorem TV {P:Program} {o:Oper} {ρ:Operand->Value} {σ:Hp} {K:Value->Hp->Prop} (hn:To o.op=true) (h:lE P o ρ σ K):∃ (f:Nat->Value) (ob:Obj),∀ (σ':Hp) (K':Value->Hp->Prop),lE P o ρ σ' K'↔∀ b,σ' b=none->K' (f b) (σ'.ins b ob):=by
 obtain ⟨dst,op,ty,pos,after,guard⟩:=o
 cases op<;>first | cases hn | skip
 case box e x=>exact ⟨fun b=>.pointer (some ⟨b,0,none⟩),.cells (ρ x).cells e,fun _ _=>Iff.rfl⟩
 case alloc e=>
  simp only [lE] at h ⊢
  split at h<;>first | exact h.elim | skip
  rename_i z hz
  exact ⟨fun b=>.pointer (some ⟨b,0,none⟩),.cells z.cells e,fun _ _=>Iff.rfl⟩
 case buildSlice t len parts=>
  simp only [lE] at h ⊢
  split at h<;>first | exact h.elim | skip
  split at h<;>first | exact h.elim | skip
  split at h<;>first | exact h.elim | skip
  ·split at h<;>first | exact h.elim | exact ⟨fun b=>.slice (some ⟨b,0,none⟩) len len,_,fun _ _=>Iff.rfl⟩
  ·split at h<;>first | exact h.elim | exact ⟨fun b=>.slice (some ⟨b,0,none⟩) len len,_,fun _ _=>Iff.rfl⟩
 case makeSlice t l c=>
  simp only [lE] at h ⊢
  split at h<;>first | exact h.elim | skip
  split at h<;>first | exact h.elim | skip
  split at h<;>first | exact h.elim | exact ⟨fun b=>.slice (some ⟨b,0,none⟩) _ _,_,fun _ _=>⟨fun h'=>h'.2.2.2,fun h'=>⟨h.1,h.2.1,h.2.2.1,h'⟩⟩⟩
 case makeMap t r=>
  cases r<;>first | cases hn | skip
  exact ⟨fun b=>.map (some b),.map #[] 0,fun _ _=>Iff.rfl⟩
def Uv (o:Op):Bool:=Hm o||To o||match o with
 | .call { callee:=.builtin .append,.. }=>true
 | .call { callee:=.builtin .copy,.. }=>true
 | _=>false
theorem Aad {P:Program} {o:Oper} {ρ:Operand->Value} {σ:Hp} {ob:Obj} {K:Nat->Value->Hp->Prop} (hrf:Uv o.op=true) (hr:Lz σ) (h:∀ b,σ b=none->lOp P o ρ (σ.ins b ob) (K b)):
  lOp P o ρ σ fun v σ'=>Lz σ'/\∀ b,σ' b=none->K b v (σ'.ins b ob):=by
 obtain ⟨b0,_,hb0⟩:=hr 0
 unfold lOp at h ⊢
 cases hy:Hm o.op with
 | true=>
  rw [hy] at h
  simp only at h ⊢
  have key:lY P o.op ρ σ fun v=>∀ b,σ b=none->K b v (σ.ins b ob):=by
   cases hl:FS o.op with
   | false=>exact Aaa (B:=fun b=>σ b=none) hl ⟨b0,hb0⟩ fun b hb=>Nm hl (h b hb)
   | true=>
    obtain ⟨dst,op,ty,pos,after,guard⟩:=o
    cases op<;>first | cases hl | skip
    rename_i t x
    simp only [lY] at h ⊢
    have h0:=h b0 hb0
    split at h0<;>first | exact h0.elim | skip
    rename_i p hp
    simp only [hp] at h
    obtain ⟨blk,off,e,h0⟩:=Hb h0
    subst e
    refine Jt.2 ⟨blk,off,rfl,?_⟩
    have h':=fun b hb=>h b hb
    simp only [dr] at h'
    split at h0
    ·rename_i ha
     simp only [ha] at h'
     split at h0<;>first | exact h0.elim | skip
     rename_i hc
     simp only [hc] at h'
     exact XR hr h'
    ·rename_i ha
     simp only [ha] at h'
     split at h0<;>first | exact h0.elim | skip
     rename_i hc
     simp only [hc] at h'
     exact ZZ hr h'
  exact IT (fun v hv=>⟨hr,hv⟩) key
 | false=>
  rw [hy] at h
  simp only at h ⊢
  cases hn:To o.op with
  | true=>
   obtain ⟨f,ob',hf⟩:=TV hn (h b0 hb0)
   refine (hf _ _).2 fun c hc=>⟨hr.ins c ob',fun b hb=>?_⟩
   have hne:b≠c:=fun e=>by rw [e] at hb;unfold Hp.ins at hb;rw [if_pos rfl] at hb;cases hb
   rw [ins_ne hne] at hb
   have:=(hf _ _).1 (h b hb) c (by rw [ins_ne (Ne.symm hne)];exact hc)
   rw [RO hne] at this
   exact this
  | false=>
   unfold Uv at hrf
   rw [hy,hn] at hrf
   obtain ⟨dst,op,ty,pos,after,guard⟩:=o
   simp only [Bool.false_or] at hrf
   split at hrf<;>first | cases hrf | skip
   ·refine Ba _ _ (fun v σ' hv=>?_) (Yg _ hr h)
    obtain ⟨hr',hv⟩:=hv
    obtain ⟨b1,_,hb1⟩:=hr' 0
    obtain ⟨A,n,c,e,_⟩:=hv b1 hb1
    refine ⟨A,n,c,e,hr',fun b hb=>?_⟩
    obtain ⟨A',n',c',e',hk⟩:=hv b hb
    rw [e] at e'
    cases e'
    exact hk
   ·refine Ba _ _ (fun v σ' hv=>?_) (Yg _ hr h)
    obtain ⟨hr',hv⟩:=hv
    obtain ⟨b1,_,hb1⟩:=hr' 0
    obtain ⟨n,e,_⟩:=hv b1 hb1
    refine ⟨n,e,hr',fun b hb=>?_⟩
    obtain ⟨n',e',hk⟩:=hv b hb
    rw [e] at e'
    cases e'
    exact hk
theorem Qq {ops:Array Oper} {i:Nat} {v:Value} {k:Value->Prop} (h:k v):gsp ops i v k:=by
 unfold gsp
 split
 ·split
  ·rename_i b
   cases b<;>exact h
  ·exact h
 ·exact h
theorem Jx {P:Program} {ops:Array Oper} {i:Nat} {K K':Act->Hp->Prop} {a:Act} {σ:Hp} (hk:∀ a σ,K a σ->K' a σ) (h:B9 P ops i K a σ):B9 P ops i K' a σ:=by
 unfold B9 at h ⊢
 split at h
 ·exact hk _ _ h
 ·split at h
  ·exact FA (fun v σ' hv=>Qq (hk _ _ (Gp hv))) h
  ·exact hk _ _ h
theorem XJ {P:Program} {ops:Array Oper} {j:Nat} {oj:Oper} {ob:Obj} {K:Nat->Act->Hp->Prop} {a:Act} {σ:Hp} (hj:ops[j]? = some oj) (hrf:Uv oj.op=true) (hr:Lz σ) (h:∀ b,σ b=none->B9 P ops j (K b) a (σ.ins b ob)):
  B9 P ops j (fun a' σ'=>Lz σ'/\∀ b,σ' b=none->K b a' (σ'.ins b ob)) a σ:=by
 unfold B9 at h ⊢
 simp only [hj] at h ⊢
 cases hw:Region.wanted oj (yielded ops a.tmps) with
 | true=>
  rw [hw] at h
  exact FA (fun v σ' hv=>Qq ⟨hv.1,fun b hb=>Gp (hv.2 b hb)⟩) (Aad hrf hr h)
 | false=>
  rw [hw] at h
  exact ⟨hr,h⟩
theorem WN {P:Program} {o:Oper} {ρ ρ':Operand->Value} {σ:Hp} {K:Value->Hp->Prop} (h:∀ x∈o.op.operands.toList,ρ x=ρ' x) (hl:lOp P o ρ σ K):lOp P o ρ' σ K:=by
 unfold lOp at hl ⊢
 split at hl
 ·exact QG h hl
 ·exact NE h hl
theorem IZ {ops:Array Oper} {o:Oper} {a:Act} {d:Option Tmp} {v:Value} (h:∀ t,d=some t->t ∉ o.looksAt ops):∀ x∈o.op.operands.toList,(a.put d v).eval x=a.eval x:=fun x hx=>
 Act.eval_put fun t ht e=>h t ht (by
  unfold Oper.looksAt
  refine List.mem_append_left _ (List.mem_filterMap.2 ⟨x,hx,?_⟩)
  rw [e])
theorem Rx {P:Program} {ops:Array Oper} {j:Nat} {oi oj:Oper} {v:Value} {K:Act->Hp->Prop} {a:Act} {σ:Hp} (hj:ops[j]? = some oj) (hap:oi.apart ops oj=true) (h:B9 P ops j K (a.put oi.dst v) σ):
  B9 P ops j (fun a' σ'=>(∃ u,a'=a.put oj.dst u)/\K (a'.put oi.dst v) σ') a σ:=by
 obtain ⟨h1,h2,_⟩:=Oper.apart_spec hap
 unfold B9 at h ⊢
 simp only [hj] at h ⊢
 rw [wanted_put oj a oi.dst v h1] at h
 cases hw:Region.wanted oj (yielded ops a.tmps) with
 | true=>
  rw [hw] at h
  refine FA (fun u σ' hu=>Qq ⟨⟨u,rfl⟩,?_⟩) (WN (IZ h1) h)
  have:=Gp hu
  rw [Act.put_comm a v u h2] at this
  exact this
 | false=>
  rw [hw] at h
  refine ⟨⟨undef,rfl⟩,?_⟩
  rw [Act.put_comm a v undef h2] at h
  exact h
inductive Mn where
 | done
 | take (i:Nat) (g:Bool) (p:Mn)
 | new (i:Nat) (g:Bool) (p:Mn)
 | alt (i:Nat) (g h:Bool) (p more:Mn)
def Mn.isDone:Mn->Bool
 | .done=>true
 | _=>false
def Mn.alts:Mn->List Nat
 | .alt i _ _ _ more=>i::more.alts
 | _=>[]
def eqB:Bool->Bool->Bool
 | true,x=>x
 | false,true=>false
 | false,false=>true
theorem XE (a b:Bool):eqB a b=(a==b):=by cases a<;>cases b<;>rfl
theorem Zr {a b:Bool}:eqB a b=true↔a=b:=by cases a<;>cases b<;>simp [eqB]
def L8:List Oper->Nat->Option Oper
 | [],_=>none
 | o::_,0=>some o
 | _::l,i+1=>L8 l i
theorem VH:∀ (l:List Oper) (i:Nat),L8 l i=l[i]?
 | [],_=>by simp [L8]
 | o::l,0=>by simp [L8]
 | o::l,i+1=>by simp [L8,VH l i]
theorem Eu (ops:Array Oper) (i:Nat):L8 ops.toList i=ops[i]? := by rw [VH];simp
def QN:List Bool->Nat->Bool->Bool
 | [],_,d=>d
 | b::_,0,_=>b
 | _::l,i+1,d=>QN l i d
theorem Lr:∀ (l:List Bool) (i:Nat) (d:Bool),QN l i d=(⟨l⟩:Array Bool).getD i d
 | [],_,_=>by simp [QN]
 | b::l,0,_=>by simp [QN]
 | b::l,i+1,d=>by rw [QN,Lr l i d];simp
def frc (l:List Bool) (k:List Bool->Bool):Bool:=match l with
 | []=>k []
 | true::l=>frc l fun l=>k (true::l)
 | false::l=>frc l fun l=>k (false::l)
theorem La:∀ (l:List Bool) (k:List Bool->Bool),frc l k=k l
 | [],_=>rfl
 | true::l,k=>by rw [frc,La l]
 | false::l,k=>by rw [frc,La l]
def M3 (es:List Edge) (L:List Bool):Bool:=es.all fun e=>!Region.binds .any e||QN L e.on false
def rdy (L:List Bool):List Oper->List Bool->Nat->List Nat
 | o::os,b::bs,k=>match b with
  | true=>rdy L os bs (k+1)
  | false=>match M3 o.after.toList L with
   | true=>k::rdy L os bs (k+1)
   | false=>rdy L os bs (k+1)
 | _,_,_=>[]
theorem Zd {L:List Bool}:∀ {os:List Oper} {bs:List Bool} {k j:Nat},j∈rdy L os bs k↔k<=j/\bs[j-k]? = some false/\∃ o,os[j-k]? = some o/\M3 o.after.toList L=true:=by
 intro os
 induction os with
 | nil=>intro bs k j;simp [rdy]
 | cons o os ih=>
  intro bs k j
  cases bs with
  | nil=>simp [rdy]
  | cons b bs=>
   have step:j∈rdy L os bs (k+1)↔k+1<=j/\(b::bs)[j-k]? = some false/\∃ o',(o::os)[j-k]? = some o'/\M3 o'.after.toList L=true:=by
    rw [ih]
    constructor
    ·rintro ⟨h1,h2⟩
     have:j-k=(j-(k+1))+1:=by omega
     rw [this]
     exact ⟨h1,by simpa using h2⟩
    ·rintro ⟨h1,h2⟩
     have:j-k=(j-(k+1))+1:=by omega
     rw [this] at h2
     exact ⟨h1,by simpa using h2⟩
   have zero:∀ (X:Prop),(k<=j/\X)↔((j=k/\X)∨(k+1<=j/\X)):=fun X=>by
    constructor
    ·rintro ⟨h1,h2⟩
     rcases Nat.lt_or_ge k j with h | h
     ·exact .inr ⟨h,h2⟩
     ·exact .inl ⟨by omega,h2⟩
    ·rintro (⟨h1,h2⟩ | ⟨h1,h2⟩)
     ·exact ⟨by omega,h2⟩
     ·exact ⟨by omega,h2⟩
   rw [zero]
   have hk:j=k->j-k=0:=fun h=>by omega
   cases b with
   | true=>
    show j∈rdy L os bs (k+1)↔_
    rw [step]
    constructor
    ·exact .inr
    ·rintro (⟨h1,h2⟩ | h)
     ·rw [hk h1] at h2;simp at h2
     ·exact h
   | false=>
    show j∈(match M3 o.after.toList L with | true=>k::rdy L os bs (k+1) | false=>rdy L os bs (k+1))↔_
    split
    ·rename_i e
     rw [List.mem_cons,step]
     constructor
     ·rintro (h | h)
      ·exact .inl ⟨h,by rw [hk h];simpa using e⟩
      ·exact .inr h
     ·rintro (⟨h1,_⟩ | h)
      ·exact .inl h1
      ·exact .inr h
    ·rename_i e
     rw [step]
     constructor
     ·exact .inr
     ·rintro (⟨h1,h2⟩ | h)
      ·rw [hk h1] at h2;simp [e] at h2
      ·exact h
theorem Dt {ops:Array Oper} {L:List Bool} (_:L.length=ops.size) {j:Nat}:j∈Region.ready .any ops ⟨L⟩↔j∈rdy L ops.toList L 0:=by
 rw [mem_ready,Zd]
 simp only [Nat.zero_le,true_and,Nat.sub_zero,Array.getElem?_toList]
 have h1:(⟨L⟩:Array Bool).getD j true=false↔L[j]? = some false:=by
  rw [Array.getD_eq_getD_getElem?,List.getElem?_toArray]
  cases h:L[j]? with
  | none=>simp
  | some b=>cases b<;>simp
 rw [h1]
 refine and_congr_right fun _=>exists_congr fun o=>and_congr_right fun _=>?_
 unfold M3
 rw [List.all_eq_true]
 refine forall_congr' fun e=>?_
 simp only [Array.mem_toList_iff,Bool.or_eq_true,Bool.not_eq_true',Lr]
 refine forall_congr' fun _=>?_
 cases Region.binds .any e<;>simp
def Rf (ops:Array Oper) (oi:Oper) (i:Nat):List Oper->List Bool->Nat->Bool
 | o::os,b::bs,k=>(match b with
  | true=>true
  | false=>Nat.beq k i||o.after.toList.any (fun e=>Region.binds .any e&&Nat.beq e.on i)||oi.apart ops o)&&Rf ops oi i os bs (k+1)
 | _,_,_=>true
theorem UM {ops:Array Oper} {oi:Oper} {i:Nat}:∀ {os:List Oper} {bs:List Bool} {k:Nat},Rf ops oi i os bs k=true->∀ j oj,k<=j->os[j-k]? = some oj->bs[j-k]? = some false->j≠i ->
  (∀ e∈oj.after,Region.binds .any e=true->e.on≠i)->oi.apart ops oj=true:=by
 intro os
 induction os with
 | nil=>intro bs k _ j oj _ ho;simp at ho
 | cons o os ih=>
  intro bs k h j oj hk ho hb hne hno
  cases bs with
  | nil=>simp at hb
  | cons b bs=>
   simp only [Rf,Bool.and_eq_true] at h
   by_cases hjk:j=k
   ·subst hjk
    simp only [Nat.sub_self,List.getElem?_cons_zero,Option.some.injEq] at ho hb
    subst ho hb
    have h1:=h.1
    simp only [Bool.or_eq_true] at h1
    rcases h1 with (h1 | h1) | h1
    ·exact absurd (Nat.eq_of_beq_eq_true h1) hne
    ·obtain ⟨e,he,h2⟩:=List.any_eq_true.1 h1
     simp only [Bool.and_eq_true] at h2
     exact absurd (Nat.eq_of_beq_eq_true h2.2) (hno e (by simpa using he) h2.1)
    ·exact h1
   ·have e1:j-k=(j-(k+1))+1:=by omega
    rw [e1] at ho hb
    exact ih h.2 j oj (by omega) (by simpa using ho) (by simpa using hb) hne hno
def NY (l:List Nat) (i:Nat):Bool:=l.any fun j=>Nat.beq j i
theorem Dx {l:List Nat} {i:Nat}:NY l i=true↔i∈l:=by
 unfold NY
 rw [List.any_eq_true]
 constructor
 ·rintro ⟨j,hj,e⟩;rw [← Nat.eq_of_beq_eq_true e];exact hj
 ·intro h;exact ⟨i,h,Nat.beq_refl i⟩
def desc (i:Nat):List Oper->Nat->List Nat->List Nat
 | [],_,D=>D
 | o::os,k,D=>match o.after.toList.any (fun e=>Region.binds .any e&&(Nat.beq e.on i||NY D e.on)) with
  | true=>desc i os (k+1) (k::D)
  | false=>desc i os (k+1) D
def RP (ops:Array Oper) (mm:List Nat) (i:Nat) (L:List Bool):Bool:=
 match mm.filter fun j=>!QN L j true with
 | []=>true
 | ms=>lk (desc i ops.toList 0 []) ms
where
 lk (D ms:List Nat):Bool:=(ms.all fun j=>NY D j)&&D.all fun j=>!QN L j true&&(match L8 ops.toList j with
  | some o=>o.after.toList.any fun e=>Region.binds .any e&&(Nat.beq e.on i||NY D e.on)
  | none=>false)
def rfD (ops:Array Oper) (i:Nat) (D:List Nat):List Oper->List Bool->Nat->Bool
 | o::os,b::bs,k=>(match b with
  | true=>true
  | false=>Nat.beq k i||NY D k||Uv o.op)&&rfD ops i D os bs (k+1)
 | _,_,_=>true
theorem Yj {ops:Array Oper} {i:Nat} {D:List Nat}:∀ {os:List Oper} {bs:List Bool} {k:Nat},rfD ops i D os bs k=true->∀ j oj,k<=j->os[j-k]? = some oj->bs[j-k]? = some false->j≠i->j ∉ D->Uv oj.op=true:=by
 intro os
 induction os with
 | nil=>intro bs k _ j oj _ ho;simp at ho
 | cons o os ih=>
  intro bs k h j oj hk ho hb hne hno
  cases bs with
  | nil=>simp at hb
  | cons b bs=>
   simp only [rfD,Bool.and_eq_true] at h
   by_cases hjk:j=k
   ·subst hjk
    simp only [Nat.sub_self,List.getElem?_cons_zero,Option.some.injEq] at ho hb
    subst ho hb
    have h1:=h.1
    simp only [Bool.or_eq_true] at h1
    rcases h1 with (h1 | h1) | h1
    ·exact absurd (Nat.eq_of_beq_eq_true h1) hne
    ·exact absurd (Dx.1 h1) hno
    ·exact h1
   ·have e1:j-k=(j-(k+1))+1:=by omega
    rw [e1] at ho hb
    exact ih h.2 j oj (by omega) (by simpa using ho) (by simpa using hb) hne hno
def Vl (ops:Array Oper) (i:Nat) (L:List Bool):Bool:=nk (desc i ops.toList 0 [])
where
 nk (D:List Nat):Bool:=rfD ops i D ops.toList L 0&&D.all fun j=>!QN L j true&&(match L8 ops.toList j with
  | some o=>o.after.toList.any fun e=>Region.binds .any e&&(Nat.beq e.on i||NY D e.on)
  | none=>false)
def Bj (ops:Array Oper) (mm:List Nat):Mn->Bool->Nat->List Bool->Bool
 | .done,true,_,L=>(rdy L ops.toList L 0).isEmpty
 | .done,false,_,_=>true
 | .take i g p,true,fuel+1,L=>(match L8 ops.toList i with
   | some o=>Hm o.op&&(!FS o.op||RP ops mm i L)&&Rf ops o i ops.toList L 0
   | none=>false) && !NY mm i&&NY (rdy L ops.toList L 0) i&&eqB g (isG ops i)&&frc (L.set i true) fun L'=>Bj ops mm p true fuel L'
 | .new i g p,true,fuel+1,L=>(match L8 ops.toList i with
   | some o=>To o.op&&o.guard.isNone&&Rf ops o i ops.toList L 0&&Vl ops i L
   | none=>false)&&NY (rdy L ops.toList L 0) i&&eqB g (isG ops i)&&frc (L.set i true) fun L'=>Bj ops mm p true fuel L'
 | .alt i g h p more,top,fuel+1,L=>
  (match top with
   | true=>!(rdy L ops.toList L 0).isEmpty&&(rdy L ops.toList L 0).all fun j=>NY (i::more.alts) j
   | false=>true) &&
  eqB g (isG ops i)&&eqB h (!NY mm i)&&(frc (L.set i true) fun L'=>Bj ops mm p true fuel L')&&Bj ops mm more false (fuel+1) L
 | _,_,_,_=>false
def CE (P:Program) (ops:Array Oper):Mn->(Act->Hp->Prop)->Act->Hp->Prop
 | .done,Q,a,σ=>Q a σ
 | .take i _ p,Q,a,σ=>match ops[i]? with
  | some o=>match Region.wanted o (yielded ops a.tmps) with
   | true=>lY P o.op a.eval σ fun v=>gsp ops i v fun u=>CE P ops p Q (a.put o.dst u) σ
   | false=>CE P ops p Q (a.put o.dst undef) σ
  | none=>False
 | .new i _ p,Q,a,σ=>B9 P ops i (fun a' σ'=>CE P ops p Q a' σ') a σ
 | .alt i _ h p more,Q,a,σ=>B9 P ops i (fun a' σ'=>(h=true->Hp.Sub σ σ')/\CE P ops p Q a' σ') a σ/\(more.isDone=false->CE P ops more Q a σ)
theorem RH (L:Array Bool) (i j:Nat) (d:Bool) (h:L.getD j d=true):(L.setIfInBounds i true).getD j d=true:=by
 simp only [Array.getD_eq_getD_getElem?,Array.getElem?_setIfInBounds] at h ⊢
 split
 ·rename_i e;subst e
  split
  ·rfl
  ·rename_i hlt;rw [Array.getElem?_eq_none (Nat.le_of_not_lt hlt)] at h;exact h
 ·exact h
theorem UC {ops:Array Oper} {mm:List Nat} {i:Nat} {L:List Bool} (h:RP ops mm i L=true) (_:i ∉ mm):
  ∃ Inv:Array Bool->Prop,Inv ⟨L⟩/\(∀ L,Inv L->∀ j∈Region.ready .any ops L,i∈Region.ready .any ops L->j≠i->Inv (L.setIfInBounds j true)/\j ∉ mm):=by
 unfold RP at h
 split at h
 ·rename_i e
  refine ⟨fun L'=>∀ j∈mm,L'.getD j true=true,fun j hj=>?_,fun L' hL' j hj hir hne=>⟨fun k hk=>RH _ _ _ _ (hL' k hk),fun hm=>?_⟩⟩
  ·have:=List.filter_eq_nil_iff.1 e j hj
   rw [← Lr]
   simpa using this
  ·have:=(mem_ready.1 hj).1
   rw [hL' j hm] at this
   cases this
 ·rename_i ms e
  unfold RP.lk at h
  generalize desc i ops.toList 0 []=D at h
  simp only [Bool.and_eq_true] at h
  obtain ⟨h1,h2⟩:=h
  refine ⟨fun L'=>(∀ j∈D,L'.getD j true=false)/\(∀ j∈mm,L'.getD j true=true∨j∈D),⟨fun j hj=>?_,fun j hj=>?_⟩,?_⟩
  ·have:=List.all_eq_true.1 h2 j hj
   simp only [Bool.and_eq_true,Bool.not_eq_true'] at this
   rw [← Lr]
   exact this.1
  ·cases hb:QN L j true with
   | true=>left;rw [← Lr];exact hb
   | false=>
    right
    have hm:j∈mm.filter (fun j=>!QN L j true):=List.mem_filter.2 ⟨hj,by simp [hb]⟩
    exact Dx.1 (List.all_eq_true.1 h1 j hm)
  ·rintro L' ⟨hD,hM⟩ j hj hir hne
   have hjD:j ∉ D:=fun hjd=>by
    have:=List.all_eq_true.1 h2 j hjd
    simp only [Bool.and_eq_true] at this
    have h3:=this.2
    obtain ⟨hjun,oj,hoj,hall⟩:=mem_ready.1 hj
    rw [Eu,hoj] at h3
    obtain ⟨ed,hed,h4⟩:=List.any_eq_true.1 h3
    simp only [Bool.and_eq_true,Bool.or_eq_true] at h4
    have h5:=hall ed (by simpa using hed) h4.1
    have flip:∀ k,L'.getD k true=false->L'.getD k false=true->False:=fun k ha hb=>by
     simp only [Array.getD_eq_getD_getElem?] at ha hb
     cases hk:L'[k]? with
     | none=>rw [hk] at ha;cases ha
     | some b=>rw [hk] at ha hb;simp only [Option.getD_some] at ha hb;rw [ha] at hb;cases hb
    rcases h4.2 with h6 | h6
    ·have h7:=Nat.eq_of_beq_eq_true h6
     rw [h7] at h5
     exact flip _ (mem_ready.1 hir).1 h5
    ·exact flip _ (hD _ (Dx.1 h6)) h5
   refine ⟨⟨fun k hk=>?_,fun k hk=>?_⟩,fun hm=>?_⟩
   ·have:j≠k:=fun e=>hjD (e▸hk)
    rw [getD_set_ne true this]
    exact hD k hk
   ·exact (hM k hk).imp (fun h=>RH _ _ _ _ h) id
   ·rcases hM j hm with h | h
    ·have:=(mem_ready.1 hj).1
     rw [h] at this
     cases this
    ·exact hjD h
theorem Wc {ops:Array Oper} {i:Nat} {L:List Bool} (h:Vl ops i L=true):
  ∃ Inv:Array Bool->Prop,Inv ⟨L⟩/\(∀ L,Inv L->∀ j∈Region.ready .any ops L,i∈Region.ready .any ops L->j≠i->Inv (L.setIfInBounds j true)/\∀ oj,ops[j]? = some oj->Uv oj.op=true):=by
 unfold Vl Vl.nk at h
 generalize desc i ops.toList 0 []=D at h
 simp only [Bool.and_eq_true] at h
 obtain ⟨h1,h2⟩:=h
 refine ⟨fun L'=>(∀ j∈D,L'.getD j true=false)/\(∀ j,L'.getD j true=false->(⟨L⟩:Array Bool).getD j true=false),⟨fun j hj=>?_,fun j hj=>hj⟩,?_⟩
 ·have:=List.all_eq_true.1 h2 j hj
  simp only [Bool.and_eq_true,Bool.not_eq_true'] at this
  rw [← Lr]
  exact this.1
 ·rintro L' ⟨hD,hM⟩ j hj hir hne
  have hjD:j ∉ D:=fun hjd=>by
   have:=List.all_eq_true.1 h2 j hjd
   simp only [Bool.and_eq_true] at this
   have h3:=this.2
   obtain ⟨hjun,oj,hoj,hall⟩:=mem_ready.1 hj
   rw [Eu,hoj] at h3
   obtain ⟨ed,hed,h4⟩:=List.any_eq_true.1 h3
   simp only [Bool.and_eq_true,Bool.or_eq_true] at h4
   have h5:=hall ed (by simpa using hed) h4.1
   have flip:∀ k,L'.getD k true=false->L'.getD k false=true->False:=fun k ha hb=>by
    simp only [Array.getD_eq_getD_getElem?] at ha hb
    cases hk:L'[k]? with
    | none=>rw [hk] at ha;cases ha
    | some b=>rw [hk] at ha hb;simp only [Option.getD_some] at ha hb;rw [ha] at hb;cases hb
   rcases h4.2 with h6 | h6
   ·have h7:=Nat.eq_of_beq_eq_true h6
    rw [h7] at h5
    exact flip _ (mem_ready.1 hir).1 h5
   ·exact flip _ (hD _ (Dx.1 h6)) h5
  have hjun:=(mem_ready.1 hj).1
  refine ⟨⟨fun k hk=>?_,fun k hk=>?_⟩,fun oj hoj=>?_⟩
  ·have:j≠k:=fun e=>hjD (e▸hk)
   rw [getD_set_ne true this]
   exact hD k hk
  ·by_cases e:j=k
   ·subst e
    exact hM j hjun
   ·rw [getD_set_ne true e] at hk
    exact hM k hk
  ·refine Yj h1 j oj (Nat.zero_le _) (by simpa using hoj) ?_ hne hjD
   have hun:=hM j hjun
   rw [Nat.sub_zero]
   rw [Array.getD_eq_getD_getElem?,List.getElem?_toArray] at hun
   cases hb:L[j]? with
   | none=>rw [hb] at hun;cases hun
   | some b=>rw [hb] at hun;simp only [Option.getD_some] at hun;rw [hun]
def Me (P:Program) (ops:Array Oper) (mm:List Nat) (K:Act->Hp->Prop):Nat->List Bool->Act->Hp->Prop
 | 0,L,a,σ=>Region.ready .any ops ⟨L⟩=[]/\K a σ
 | fuel+1,L,a,σ=>Lz σ->(Region.ready .any ops ⟨L⟩=[]->K a σ) /\
  ∀ j∈Region.ready .any ops ⟨L⟩,B9 P ops j (fun a' σ'=>(j ∉ mm->Hp.Sub σ σ')/\Me P ops mm K fuel (L.set j true) a' σ') a σ
theorem Fk (L:List Bool) (i:Nat):(⟨L⟩:Array Bool).setIfInBounds i true=⟨L.set i true⟩:=by simp
theorem Rw {P:Program} {r:Option Nat} {B:Nat} {w0:World} {M ms:List Nat} {ops:Array Oper} {mm:List Nat} {Q:Exit->Act->Hp->Prop}:∀ (fuel:Nat) (L:List Bool) (a:Act) (σ:Hp) (w:World),
  Me P ops mm (Q .normal) fuel L ⟨a.tmps,[]⟩ σ->a.defers=ms.map markD->Sat B w0 (ms++M) σ w->wpAnyIn (FW r) 0 P .any ops (LQ B w0 M Q) fuel ⟨L⟩ a w
 | 0,_,_,σ,_,h,hd,hs=>⟨h.1,ms,σ,hs,hd,h.2⟩
 | fuel+1,L,a,σ,w,h,hd,hs=>by
  obtain ⟨h1,h2⟩:=h hs.room
  refine ⟨fun e=>⟨ms,σ,hs,hd,h1 e⟩,fun i hi=>QJ (h2 i hi) hs fun a' σ' w' hd' h' hs'=>?_⟩
  rw [Fk]
  exact Rw fuel _ a' σ' w' h'.2 (hd'.trans hd) hs'
theorem V7 {P:Program} {ops:Array Oper} {mm:List Nat} {K:Act->Hp->Prop} {L:List Bool} {a:Act} {σ:Hp} (hr:Region.ready .any ops ⟨L⟩=[]) (h:K a σ):∀ fuel,Me P ops mm K fuel L a σ
 | 0=>⟨hr,h⟩
 | _+1=>fun _=>⟨fun _=>h,by rw [hr];simp⟩
def Yv (P:Program) (ops:Array Oper) (o:Oper) (v:Value) (a:Act) (σ:Hp):Prop:=
 (Region.wanted o (yielded ops a.tmps)=true/\lY P o.op a.eval σ fun u=>u=v)∨(Region.wanted o (yielded ops a.tmps)=false/\v=undef)
theorem Rp {ops:Array Oper} {L:Array Bool} {i j:Nat} {oj:Oper} (hi:i∈Region.ready .any ops L) (hj:j∈Region.ready .any ops L) (hoj:ops[j]? = some oj):∀ e∈oj.after,Region.binds .any e=true->e.on≠i:=fun e he hb heq=>by
 obtain ⟨_,oj',hoj',hall⟩:=mem_ready.1 hj
 rw [hoj] at hoj'
 cases hoj'
 have h1:=hall e he hb
 have h0:=(mem_ready.1 hi).1
 rw [heq] at h1
 rcases Nat.lt_or_ge i L.size with h' | h'
 ·simp [h'] at h0 h1;rw [h0] at h1;cases h1
 ·simp [Array.getElem?_eq_none h'] at h1
theorem set_comm (L:List Bool) {i j:Nat} (h:i≠j):(L.set i true).set j true=(L.set j true).set i true:=List.set_comm _ _ h
theorem Re {L:List Bool} {j k:Nat} (hjun:(⟨L⟩:Array Bool).getD j true=false) (hun:(⟨L.set j true⟩:Array Bool).getD k true=false):(⟨L⟩:Array Bool).getD k true=false:=by
 by_cases hjk:j=k
 ·subst hjk;exact hjun
 ·rw [← Fk,getD_set_ne true hjk] at hun;exact hun
theorem RC {P:Program} {ops:Array Oper} {mm:List Nat} {K:Act->Hp->Prop} {Inv:Array Bool->Prop} {i:Nat} {oi:Oper} {v:Value} (hi:ops[i]? = some oi) (hy:Hm oi.op=true)
  (hInv:∀ L,Inv L->∀ j∈Region.ready .any ops L,i∈Region.ready .any ops L->j≠i->Inv (L.setIfInBounds j true)/\(FS oi.op=true->j ∉ mm)):
  ∀ (fuel:Nat) (L:List Bool) (a:Act) (σ:Hp),
   (∀ j oj,ops[j]? = some oj->j≠i->(⟨L⟩:Array Bool).getD j true=false->(∀ e∈oj.after,Region.binds .any e=true->e.on≠i)->oi.apart ops oj=true) ->
   Inv ⟨L⟩->i∈Region.ready .any ops ⟨L⟩->Yv P ops oi v a σ->Me P ops mm K fuel (L.set i true) (a.put oi.dst v) σ->Me P ops mm K (fuel+1) L a σ:=by
 have self:∀ {fuel:Nat} {L:List Bool} {a:Act} {σ:Hp},Yv P ops oi v a σ->Me P ops mm K fuel (L.set i true) (a.put oi.dst v) σ->B9 P ops i (fun a' σ'=>(i ∉ mm->Hp.Sub σ σ')/\Me P ops mm K fuel (L.set i true) a' σ') a σ:=by
  intro fuel L a σ hy' H
  unfold B9
  rw [hi]
  rcases hy' with ⟨hw,h⟩ | ⟨hw,rfl⟩
  ·simp only [hw]
   unfold lOp
   rw [hy]
   exact IT (fun u e=>by subst e;exact Qq ⟨fun _=>Hp.Sub.refl _,H⟩) h
  ·simp only [hw]
   exact ⟨fun _=>Hp.Sub.refl _,H⟩
 intro fuel
 induction fuel with
 | zero=>
  intro L a σ _ hin hr hy' H _
  refine ⟨fun h=>(by rw [h] at hr;cases hr),fun j hj=>?_⟩
  by_cases hji:j=i
  ·subst hji;exact self hy' H
  ·have:=ready_mono hj hji
   rw [Fk,H.1] at this
   cases this
 | succ fuel ih=>
  intro L a σ hfree hin hr hy' H hroom
  refine ⟨fun h=>(by rw [h] at hr;cases hr),fun j hj=>?_⟩
  by_cases hji:j=i
  ·subst hji;exact self hy' H
  ·have hj':=ready_mono hj hji
   rw [Fk] at hj'
   have h1:=(H hroom).2 j hj'
   obtain ⟨hjun,oj,hoj,hall⟩:=mem_ready.1 hj
   have hap:=hfree j oj hoj hji hjun (Rp hr hj hoj)
   obtain ⟨hI,hm⟩:=hInv _ hin j hj hr hji
   refine Jx (fun a' σ' h2=>?_) (Rx hoj hap h1)
   obtain ⟨⟨u,hu⟩,hsub,hany⟩:=h2
   refine ⟨hsub,?_⟩
   rw [Fk] at hI
   have hr':=ready_mono hr (Ne.symm hji)
   rw [Fk] at hr'
   refine ih (L.set j true) a' σ' (fun k ok hk hki hun hno=>hfree k ok hk hki (Re hjun hun) hno) hI hr' ?_ ?_
   ·have h3:=(Oper.apart_spec hap).2.2
    subst hu
    rcases hy' with ⟨hw,h⟩ | ⟨hw,e⟩
    ·refine .inl ⟨by rw [wanted_put oi a oj.dst u h3];exact hw,?_⟩
     have h4:=QG (ρ':=(a.put oj.dst u).eval) (fun x hx=>(IZ h3 x hx).symm) h
     by_cases hl:FS oi.op=true
     ·exact XD (hsub (hm hl)) h4
     ·exact Nm (by simpa using hl) h4
    ·exact .inr ⟨by rw [wanted_put oi a oj.dst u h3];exact hw,e⟩
   ·rw [set_comm _ hji]
    exact hany
theorem Xr {P:Program} {ops:Array Oper} {mm:List Nat} {K:Act->Hp->Prop} {i:Nat} {oi:Oper} {f:Nat->Value} {ob:Obj} (hi:ops[i]? = some oi) (hn:To oi.op=true) (hg:oi.guard=none)
  {Inv:Array Bool->Prop} (hI:∀ L,Inv L->∀ j∈Region.ready .any ops L,i∈Region.ready .any ops L->j≠i->Inv (L.setIfInBounds j true)/\∀ oj,ops[j]? = some oj->Uv oj.op=true):
  ∀ (fuel:Nat) (L:List Bool) (a:Act) (σ:Hp),
   (∀ j oj,ops[j]? = some oj->j≠i->(⟨L⟩:Array Bool).getD j true=false->(∀ e∈oj.after,Region.binds .any e=true->e.on≠i)->oi.apart ops oj=true)->Inv ⟨L⟩ ->
   i∈Region.ready .any ops ⟨L⟩->(∀ (σ':Hp) (K':Value->Hp->Prop),lE P oi a.eval σ' K'↔∀ b,σ' b=none->K' (f b) (σ'.ins b ob)) ->
   (∀ b,σ b=none->Me P ops mm K fuel (L.set i true) (a.put oi.dst (f b)) (σ.ins b ob))->Me P ops mm K (fuel+1) L a σ:=by
 have hny:Hm oi.op=false:=by
  revert hn
  cases oi.op<;>intro hn<;>first | rfl | cases hn
 have hw:∀ a:Act,Region.wanted oi (yielded ops a.tmps)=true:=fun a=>by unfold Region.wanted;rw [hg]
 have self:∀ {fuel:Nat} {L:List Bool} {a:Act} {σ:Hp},(∀ (σ':Hp) (K':Value->Hp->Prop),lE P oi a.eval σ' K'↔∀ b,σ' b=none->K' (f b) (σ'.ins b ob)) ->
   (∀ b,σ b=none->Me P ops mm K fuel (L.set i true) (a.put oi.dst (f b)) (σ.ins b ob))->B9 P ops i (fun a' σ'=>(i ∉ mm->Hp.Sub σ σ')/\Me P ops mm K fuel (L.set i true) a' σ') a σ:=by
  intro fuel L a σ hF H
  unfold B9
  simp only [hi,hw a]
  unfold lOp
  rw [hny]
  exact (hF _ _).2 fun b hb=>Qq ⟨fun _=>Hp.Sub.ins _ hb,H b hb⟩
 intro fuel
 induction fuel with
 | zero=>
  intro L a σ _ _ hr hF H hroom
  refine ⟨fun h=>(by rw [h] at hr;cases hr),fun j hj=>?_⟩
  by_cases hji:j=i
  ·subst hji;exact self hF H
  ·obtain ⟨b,_,hb⟩:=hroom 0
   have:=ready_mono hj hji
   rw [Fk,(H b hb).1] at this
   cases this
 | succ fuel ih=>
  intro L a σ hfree hinv hr hF H hroom
  refine ⟨fun h=>(by rw [h] at hr;cases hr),fun j hj=>?_⟩
  by_cases hji:j=i
  ·subst hji;exact self hF H
  ·have hj':=ready_mono hj hji
   rw [Fk] at hj'
   obtain ⟨hjun,oj,hoj,hall⟩:=mem_ready.1 hj
   have hap:=hfree j oj hoj hji hjun (Rp hr hj hoj)
   obtain ⟨hinv',hrf⟩:=hI _ hinv j hj hr hji
   have hrf:=hrf oj hoj
   rw [Fk] at hinv'
   have h2:=XJ (K:=fun b a' σ'=>σ b=none/\(∃ u,a'=a.put oj.dst u)/\(j ∉ mm->Hp.Sub (σ.ins b ob) σ')/\Me P ops mm K fuel ((L.set i true).set j true) (a'.put oi.dst (f b)) σ') hoj hrf hroom fun b hb=>
    Jx (fun a' σ' h=>⟨hb,h.1,h.2⟩) (Rx hoj hap ((H b hb (hroom.ins b ob)).2 j hj'))
   refine Jx (fun a' σ' h3=>?_) h2
   obtain ⟨hr3,h3⟩:=h3
   obtain ⟨b0,_,hb0⟩:=hr3 0
   obtain ⟨hσ0,⟨u,hu⟩,hsub,_⟩:=h3 b0 hb0
   refine ⟨fun hm k x hk=>?_,?_⟩
   ·have hkb:k≠b0:=fun e=>by rw [e,hσ0] at hk;cases hk
    have:=hsub hm k x (by rw [ins_ne hkb];exact hk)
    rw [ins_ne hkb] at this
    exact this
   ·have hr':=ready_mono hr (Ne.symm hji)
    rw [Fk] at hr'
    have h4:=(Oper.apart_spec hap).2.2
    refine ih (L.set j true) a' σ' (fun k ok hk hki hun hno=>hfree k ok hk hki (Re hjun hun) hno) hinv' hr' ?_ fun b hb=>?_
    ·subst hu
     refine fun s'' K''=>⟨fun h=>(hF _ _).1 (NE (IZ h4) h),fun h=>NE (fun x hx=>(IZ h4 x hx).symm) ((hF _ _).2 h)⟩
    ·rw [set_comm _ hji]
     exact (h3 b hb).2.2.2
theorem TS {P:Program} {ops:Array Oper} {mm:List Nat} {K:Act->Hp->Prop}:∀ (pl:Mn),
  (∀ (fuel:Nat) (L:List Bool) (a:Act) (σ:Hp),L.length=ops.size->Bj ops mm pl true fuel L=true->CE P ops pl K a σ->Me P ops mm K fuel L a σ) /\
  (∀ (fuel:Nat) (L:List Bool) (a:Act) (σ:Hp),L.length=ops.size->Bj ops mm pl false (fuel+1) L=true->(pl.isDone=false->CE P ops pl K a σ) ->
   ∀ i∈pl.alts,B9 P ops i (fun a' σ'=>(i ∉ mm->Hp.Sub σ σ')/\Me P ops mm K fuel (L.set i true) a' σ') a σ):=by
 have free:∀ {i:Nat} {o:Oper} {L:List Bool},Rf ops o i ops.toList L 0=true->∀ j oj,ops[j]? = some oj->j≠i->(⟨L⟩:Array Bool).getD j true=false->(∀ e∈oj.after,Region.binds .any e=true->e.on≠i)->o.apart ops oj=true:=by
  intro i o L hfree j oj hoj hne hun hno
  refine UM hfree j oj (Nat.zero_le _) (by simpa using hoj) ?_ hne hno
  rw [Nat.sub_zero]
  rw [Array.getD_eq_getD_getElem?,List.getElem?_toArray] at hun
  cases hb:L[j]? with
  | none=>rw [hb] at hun;cases hun
  | some b=>rw [hb] at hun;simp only [Option.getD_some] at hun;rw [hun]
 intro pl
 induction pl with
 | done=>
  refine ⟨fun fuel L a σ hL hok h=>?_,fun fuel L a σ hL hok h i hi=>by cases hi⟩
  have hr:Region.ready .any ops ⟨L⟩=[]:=by
   refine List.eq_nil_iff_forall_not_mem.2 fun j hj=>?_
   rw [Dt hL] at hj
   unfold Bj at hok
   rw [List.isEmpty_iff] at hok
   rw [hok] at hj
   cases hj
  exact V7 hr h _
 | take i g p ih=>
  refine ⟨fun fuel L a σ hL hok h=>?_,fun fuel L a σ hL hok=>by simp [Bj] at hok⟩
  cases fuel with
  | zero=>simp [Bj] at hok
  | succ fuel=>
   simp only [Bj,Bool.and_eq_true,La] at hok
   obtain ⟨⟨⟨⟨hyl,hmm⟩,hrd⟩,hg⟩,hp⟩:=hok
   have himm:i ∉ mm:=fun e=>by rw [Dx.2 e] at hmm;cases hmm
   have hir:i∈Region.ready .any ops ⟨L⟩:=(Dt hL).2 (Dx.1 hrd)
   split at hyl<;>first | cases hyl | skip
   rename_i o ho
   rw [Eu] at ho
   simp only [Bool.and_eq_true,Bool.or_eq_true,Bool.not_eq_true'] at hyl
   obtain ⟨⟨hy,hl⟩,hfree⟩:=hyl
   simp only [CE,ho] at h
   have hL':(L.set i true).length=ops.size:=by simpa using hL
   obtain ⟨Inv,hI0,hI⟩:∃ Inv:Array Bool->Prop,Inv ⟨L⟩/\∀ L',Inv L'->∀ j∈Region.ready .any ops L',i∈Region.ready .any ops L'->j≠i->Inv (L'.setIfInBounds j true)/\(FS o.op=true->j ∉ mm):=by
    by_cases hload:FS o.op=true
    ·obtain ⟨Inv,hI0,hI⟩:=UC (hl.resolve_left (by simp [hload])) himm
     exact ⟨Inv,hI0,fun L' h1 j h2 h3 h4=>⟨(hI L' h1 j h2 h3 h4).1,fun _=>(hI L' h1 j h2 h3 h4).2⟩⟩
    ·exact ⟨fun _=>True,trivial,fun _ _ _ _ _ _=>⟨trivial,fun e=>absurd e hload⟩⟩
   split at h
   ·rename_i hw
    obtain ⟨v,hv,hs⟩:=Yz h
    exact RC ho hy hI fuel L a σ (free hfree) hI0 hir (.inl ⟨hw,hs⟩) (ih.1 fuel _ _ σ hL' hp (Gp hv))
   ·rename_i hw
    exact RC ho hy hI fuel L a σ (free hfree) hI0 hir (.inr ⟨hw,rfl⟩) (ih.1 fuel _ _ σ hL' hp h)
 | new i g p ih=>
  refine ⟨fun fuel L a σ hL hok h=>?_,fun fuel L a σ hL hok=>by simp [Bj] at hok⟩
  cases fuel with
  | zero=>simp [Bj] at hok
  | succ fuel=>
   simp only [Bj,Bool.and_eq_true,La] at hok
   obtain ⟨⟨⟨hyl,hrd⟩,hg⟩,hp⟩:=hok
   have hir:i∈Region.ready .any ops ⟨L⟩:=(Dt hL).2 (Dx.1 hrd)
   split at hyl<;>first | cases hyl | skip
   rename_i o ho
   rw [Eu] at ho
   simp only [Bool.and_eq_true,Option.isNone_iff_eq_none] at hyl
   obtain ⟨⟨⟨hn,hgd⟩,hfree⟩,hrf⟩:=hyl
   have hL':(L.set i true).length=ops.size:=by simpa using hL
   have hny:Hm o.op=false:=by
    revert hn
    cases o.op<;>intro hn<;>first | rfl | cases hn
   have hw:Region.wanted o (yielded ops a.tmps)=true:=by unfold Region.wanted;rw [hgd]
   simp only [CE] at h
   unfold B9 at h
   simp only [ho,hw] at h
   unfold lOp at h
   rw [hny] at h
   obtain ⟨f,ob,hF⟩:=TV hn h
   obtain ⟨Inv,hI0,hI⟩:=Wc hrf
   exact Xr ho hn hgd hI fuel L a σ (free hfree) hI0 hir hF fun b hb=>ih.1 fuel _ _ _ hL' hp (Gp ((hF _ _).1 h b hb))
 | alt i g hh p more ihp ihm=>
  have key:∀ (fuel:Nat) (L:List Bool) (a:Act) (σ:Hp),L.length=ops.size->Bj ops mm (.alt i g hh p more) false (fuel+1) L=true->CE P ops (.alt i g hh p more) K a σ ->
   ∀ k∈Mn.alts (.alt i g hh p more),B9 P ops k (fun a' σ'=>(k ∉ mm->Hp.Sub σ σ')/\Me P ops mm K fuel (L.set k true) a' σ') a σ:=by
   intro fuel L a σ hL hok h k hk
   simp only [Bj,Bool.and_eq_true,Bool.true_and,La] at hok
   obtain ⟨⟨⟨hg,hhm⟩,hp⟩,hm⟩:=hok
   have hhm':=Zr.1 hhm
   rcases List.mem_cons.1 hk with rfl | hk
   ·refine Jx (fun a' σ' h'=>⟨fun hmem=>h'.1 ?_,ihp.1 fuel _ a' σ' (by simpa using hL) hp h'.2⟩) h.1
    rw [hhm']
    cases hb:NY mm k<;>first | rfl | exact absurd (Dx.1 hb) hmem
   ·exact ihm.2 fuel L a σ hL hm h.2 k hk
  refine ⟨fun fuel L a σ hL hok h=>?_,fun fuel L a σ hL hok h=>key fuel L a σ hL hok (h rfl)⟩
  cases fuel with
  | zero=>simp [Bj] at hok
  | succ fuel=>
   have hok':=hok
   simp only [Bj,Bool.and_eq_true] at hok
   obtain ⟨⟨⟨⟨⟨hne,hall⟩,hg⟩,hhm⟩,hp⟩,hm⟩:=hok
   have hsub:∀ j∈Region.ready .any ops ⟨L⟩,j∈Mn.alts (.alt i g hh p more):=fun j hj=>by
    rw [Dt hL] at hj
    exact Dx.1 (List.all_eq_true.1 hall j hj)
   have hfalse:Bj ops mm (.alt i g hh p more) false (fuel+1) L=true:=by
    simp only [Bj,Bool.and_eq_true,Bool.true_and]
    exact ⟨⟨⟨hg,hhm⟩,hp⟩,hm⟩
   refine fun _=>⟨fun e=>?_,fun k hk=>key fuel L a σ hL hfalse h k (hsub k hk)⟩
   exfalso
   cases hrd:rdy L ops.toList L 0 with
   | nil=>rw [hrd] at hne;cases hne
   | cons x xs=>
    have:x∈Region.ready .any ops ⟨L⟩:=(Dt hL).2 (by rw [hrd];exact List.mem_cons_self ..)
    rw [e] at this
    cases this
def Qy (next:Act->Hp->Prop) (Q:Exit->Act->Hp->Prop):Exit->Act->Hp->Prop
 | .normal,a,σ=>next a σ
 | e,a,σ=>Q e a σ
def K8 (id:Nat) (Q:Exit->Act->Hp->Prop):Exit->Act->Hp->Prop
 | .exit id',a,σ=>match Nat.beq id' id with
  | true=>Q .normal a σ
  | false=>Q (.exit id') a σ
 | e,a,σ=>Q e a σ
abbrev RecT:=LoopState->Option Code->Obj
def XK (l:Nat) (Rec:RecT) (R:Value->Hp->Prop):Exit->Act->Hp->Prop
 | .normal,_,σ=>σ l=some (Rec .busy none,true)/\R (.bool true) (σ.ins l (Rec .ready none))
 | .ret,_,σ=>σ l=some (Rec .busy none,true)/\R (.bool false) (σ.ins l (Rec .done (some .ret)))
 | .exit id,_,σ=>σ l=some (Rec .busy none,true)/\R (.bool false) (σ.ins l (Rec .done (some (.exit id))))
 | _,_,_=>False
def VT (Q:Exit->Act->Hp->Prop) (a:Act) (σ:Hp):Option Code->Prop
 | none=>Q .normal a σ
 | some .ret=>Q .ret a σ
 | some (.exit id)=>Q (.exit id) a σ
 | _=>False
def Aax (P:Program) (gv:Value) (σ:Hp) (BODY:Nat->RecT->Array Value->Hp->(Value->Hp->Prop)->Prop) (AFTER:Option Code->Hp->Prop):Prop:=
 ∀ (l:Nat) (Rec:RecT),σ l=none->(∀ args s1 R,s1 l=some (Rec .ready none,true)->BODY l Rec args s1 R->Ra P (.func (.yield l) #[] #[]) args s1 R) ->
  Ta P gv #[.func (.yield l) #[] #[]] (σ.ins l (Rec .ready none)) fun _ σ'=>∃ st pend,σ' l=some (Rec st pend,true)/\(st == .busy)=false/\AFTER pend (σ'.ins l (Rec .exhausted pend))
def L0:Code->Bool
 | .seq x y | .cond _ x y=>L0 x&&L0 y
 | .block _ x | .loop x | .scope x=>L0 x
 | .rangeFunc ..=>false
 | _=>true
def awp (P:Program):Code->(Exit->Act->Hp->Prop)->Act->Hp->Prop
 | .skip,Q,a,σ=>Q .normal a σ
 | .region _ ops false,Q,a,σ=>Wh P ops (Q .normal) (List.range ops.size) a σ
 | .region _ ops true,Q,a,σ=>match Region.noSelect ops,Vy ops with
  | true,true=>∃ mm pl,Bj ops mm pl true ops.size (List.replicate ops.size false)=true/\CE P ops pl (Q .normal) a σ
  | _,_=>False
 | .seq x y,Q,a,σ=>awp P x (Qy (awp P y Q) Q) a σ
 | .cond c x y,Q,a,σ=>match a.eval c with
  | .bool b=>bc b (awp P x Q a σ) (awp P y Q a σ)
  | _=>False
 | .block id body,Q,a,σ=>awp P body (K8 id Q) a σ
 | .loop body,Q,a,σ=>∃ I:Nat->Act->Hp->Prop,(∃ n,I n a σ) /\
   ∀ n a σ,I n a σ->awp P body (Qy (fun a' σ'=>∃ s'',Hp.Sub s'' σ'/\∃ m,m<n/\I m a' s'') Q) a σ
 | .exit id,Q,a,σ=>Q (.exit id) a σ
 | .ret,Q,a,σ=>Q .ret a σ
 | .rangeFunc g ps asg body,Q,a,σ=>match L0 asg,L0 body with
  | true,true=>Aax P (a.eval g) σ (fun l Rec args s1 R=>args.size=ps.size /\
    awp P asg (Qy (fun a2 σ2=>σ2 l=some (Rec .ready none,true)/\awp P body (XK l Rec R) ⟨a2.tmps,[]⟩ (σ2.ins l (Rec .busy none))) fun _ _ _=>False)
     ⟨(ps.zip args).foldl (fun tmps (t,v)=>tmps.setIfInBounds t v) a.tmps,[]⟩ s1) fun p σ'=>VT Q a σ' p
  | _,_=>False
 | _,_,_,_=>False
theorem Nw {P:Program} {F:Fence} {n:Nat} {c:Code} {Q Q':Exit->Act->World->Prop} {a:Act} {w:World} (h:c.wpIn F n P Q a w) (hq:∀ e a w,Q e a w->Q' e a w):c.wpIn F n P Q' a w:=wpIn_mono h hq
theorem VF {B:Nat} {w0:World} {M:List Nat} {next:Act->Hp->Prop} {next':Act->World->Prop} {Q:Exit->Act->Hp->Prop} (hn:∀ ms a σ w,next ⟨a.tmps,[]⟩ σ->a.defers=ms.map markD->Sat B w0 (ms++M) σ w->next' a w):
  ∀ e a w,LQ B w0 M (Qy next Q) e a w->Exit.then next' (LQ B w0 M Q) e a w:=by
 intro e a w h
 cases e with
 | normal=>obtain ⟨ms,σ,hs,hd,h⟩:=h;exact hn _ _ _ _ h hd hs
 | exit id=>exact h
 | goto l=>exact h
 | ret=>exact h
 | panic c=>exact h
 | outgrown=>exact h
theorem Np {B:Nat} {w0 w:World} {M:List Nat} {σ:Hp} (hs:Sat B w0 M σ w) {l:Nat} {r:Loop} (hl:σ l=some (.loop r,true)) (o:Obj):Sat B w0 M (σ.ins l o) (w.putObj l o):=
 hs.setObj hl o
def Kt (fn:FuncId) (tmps:Array Value) (ps:Array Tmp) (asg body:Code) (d:Nat):RecT:=fun st pend=>.loop { state:=st,pending:=pend,fn:=fn,tmps:=tmps,params:=ps,assign:=asg,body:=body,defers:=d }
theorem SB {P:Program} {w:World} {l:Nat} {fn:FuncId} {tmps:Array Value} {ps:Array Tmp} {asg body:Code} {d:Nat} {st:LoopState} {pend:Option Code} {args:Array Value}
  (h:w.heap[l]? = some (Kt fn tmps ps asg body d st pend)) (hs:args.size=ps.size):
  (Instr.yield l args).run P w=.ok (.round l fn ((ps.zip args).foldl (fun tmps (t,v)=>tmps.setIfInBounds t v) tmps) asg body) w:=run_yield h hs
theorem Wz {P:Program} {gv:Value} {args:Array Value} {σ:Hp} {R:Value->Hp->Prop} (h:Ta P gv args σ R):∃ gf first caps,gv=.func (.func gf) first caps/\Ap P gf=true/\FN P gf (first++args++caps) σ R:=by
 unfold Ta at h
 split at h
 ·exact ⟨_,_,_,rfl,h.1,Vr _ _ _▸h.2⟩
 ·exact h.elim
theorem U1 {P:Program} {gf:FuncId} {args caps:Array Value} {w:World} (he:Ap P gf=true):(invoke (Deferred.mk (.fn (.func gf) caps) args).target (Deferred.mk (.fn (.func gf) caps) args).args).run P w=.ok (.enter gf (args++caps)) w:=Jb he
theorem WU {P:Program} {l:Nat} {fn:FuncId} {tmps:Array Value} {ps:Array Tmp} {asg body:Code} {d:Nat} {args:Array Value} {s1:Hp} {R:Value->Hp->Prop}
  (iha:∀ (B:Nat) (w0:World) (M ms:List Nat) (Q:Exit->Act->Hp->Prop) (a:Act) (σ:Hp) (w:World),a.defers=ms.map markD->awp P asg Q ⟨a.tmps,[]⟩ σ->Sat B w0 (ms++M) σ w->asg.wpIn (FW (some l)) 0 P (LQ B w0 M Q) a w)
  (ihb:∀ (B:Nat) (w0:World) (M ms:List Nat) (Q:Exit->Act->Hp->Prop) (a:Act) (σ:Hp) (w:World),a.defers=ms.map markD->awp P body Q ⟨a.tmps,[]⟩ σ->Sat B w0 (ms++M) σ w->body.wpIn (FW (some l)) 0 P (LQ B w0 M Q) a w)
  (hl:s1 l=some (Kt fn tmps ps asg body d .ready none,true)) (hsz:args.size=ps.size)
  (h:awp P asg (Qy (fun a2 σ2=>σ2 l=some (Kt fn tmps ps asg body d .ready none,true)/\awp P body (XK l (Kt fn tmps ps asg body d) R) ⟨a2.tmps,[]⟩ (σ2.ins l (Kt fn tmps ps asg body d .busy none))) fun _ _ _=>False)
   ⟨(ps.zip args).foldl (fun tmps (t,v)=>tmps.setIfInBounds t v) tmps,[]⟩ s1):OF P l args s1 R:=by
 intro B w0 M w hs
 refine ⟨_,_,_,_,SB (hs.holds _ _ _ hl).1 hsz,?_⟩
 refine roundIn_of_wpIn trivial ?_
 refine wpIn_mono (iha B w0 M [] _ ⟨_,[]⟩ _ _ rfl h hs) ?_
 intro e a1 w1 hq
 cases e with
 | normal=>
  obtain ⟨ms,σ2,hs2,hd2,hl2,hb⟩:=hq
  refine ⟨_,run_beginRound (hs2.holds _ _ _ hl2).1 rfl,?_⟩
  refine wpIn_mono (ihb B w0 M ms _ a1 _ _ hd2 hb (Np hs2 hl2 _)) ?_
  intro e a2 w2 hq
  cases e with
  | normal=>
   obtain ⟨ms,s3,hs3,_,hl3,hR⟩:=hq
   exact ⟨_,_,run_endRound none (hs3.holds _ _ _ hl3).1,_,_,rfl,hR,(Np hs3.fewer hl3 _)⟩
  | ret=>
   obtain ⟨ms,s3,hs3,_,hl3,hR⟩:=hq
   exact ⟨_,_,run_endRound (some .ret) (hs3.holds _ _ _ hl3).1,_,_,rfl,hR,(Np hs3.fewer hl3 _)⟩
  | exit id=>
   obtain ⟨ms,s3,hs3,_,hl3,hR⟩:=hq
   exact ⟨_,_,run_endRound (some (.exit id)) (hs3.holds _ _ _ hl3).1,_,_,rfl,hR,(Np hs3.fewer hl3 _)⟩
  | goto t=>obtain ⟨ms,s3,hs3,_,h⟩:=hq;exact h.elim
  | panic c=>exact hq.elim
  | outgrown=>exact hq.elim
 | exit id=>obtain ⟨ms,s3,hs3,_,h⟩:=hq;exact h.elim
 | ret=>obtain ⟨ms,s3,hs3,_,h⟩:=hq;exact h.elim
 | goto l=>obtain ⟨ms,s3,hs3,_,h⟩:=hq;exact h.elim
 | panic c=>exact hq.elim
 | outgrown=>exact hq.elim
theorem X5 {P:Program} (hm:P.follows .mixedOrders=true) (c:Code):∀ (r:Option Nat) (_:r=none∨L0 c=true) (B:Nat) (w0:World) (M ms:List Nat) (Q:Exit->Act->Hp->Prop) (a:Act) (σ:Hp) (w:World),
  a.defers=ms.map markD->awp P c Q ⟨a.tmps,[]⟩ σ->Sat B w0 (ms++M) σ w->c.wpIn (FW r) 0 P (LQ B w0 M Q) a w:=by
 induction c with
 | skip=>intro r hr B w0 M ms Q a σ w hd h hs;exact wpIn_skip ⟨ms,σ,hs,hd,h⟩
 | region id ops draw=>
  intro r hr B w0 M ms Q a σ w hd h hs
  cases draw with
  | false=>exact wpIn_region (V5 _ _ _ _ hd h hs)
  | true=>
   simp only [awp] at h
   split at h<;>first | exact h.elim | skip
   rename_i hsel hnd
   obtain ⟨mm,pl,hok,h⟩:=h
   exact wpIn_region_any hm (Rw _ _ _ _ _ ((TS pl).1 _ _ _ _ (by simp) hok h) hd hs.drawn)
 | seq x y ihx ihy=>
  intro r hr B w0 M ms Q a σ w hd h hs
  simp only [L0,Bool.and_eq_true] at hr
  refine wpIn_seq (Nw (ihx r (hr.imp id And.left) _ _ _ _ _ _ _ _ hd h hs) (VF fun ms a σ w h hd hs=>ihy r (hr.imp id And.right) _ _ _ _ _ _ _ _ hd h hs))
 | cond c x y ihx ihy=>
  intro r hr B w0 M ms Q a σ w hd h hs
  simp only [L0,Bool.and_eq_true] at hr
  simp only [awp] at h
  split at h<;>first | exact h.elim | skip
  rename_i b hb
  rw [Oa] at hb
  exact wpIn_cond_split hb (fun e=>ihx r (hr.imp id And.left) _ _ _ _ _ _ _ _ hd (AaV h e) hs) (fun e=>ihy r (hr.imp id And.right) _ _ _ _ _ _ _ _ hd (Abw h e) hs)
 | block id body ih=>
  intro r hr B w0 M ms Q a σ w hd h hs
  refine wpIn_block (Nw (ih r hr _ _ _ _ _ _ _ _ hd h hs) ?_)
  intro e a w h
  cases e with
  | exit id'=>
   obtain ⟨ms,σ,hs,hd,h⟩:=h
   simp only [K8] at h
   simp only [Exit.inBlock]
   split at h
   ·rename_i hb
    rw [if_pos (Nat.eq_of_beq_eq_true hb)]
    exact ⟨ms,σ,hs,hd,h⟩
   ·rename_i hb
    rw [if_neg (Nat.ne_of_beq_eq_false hb)]
    exact ⟨ms,σ,hs,hd,h⟩
  | normal=>exact h
  | goto l=>exact h
  | ret=>exact h
  | panic c=>exact h
  | outgrown=>exact h
 | loop body ih=>
  intro r hr B w0 M ms Q a σ w hd h hs
  obtain ⟨I,⟨n,h0⟩,hI⟩:=h
  refine wpIn_loop_ghost (fun n a w=>∃ ms σ,Sat B w0 (ms++M) σ w/\a.defers=ms.map markD/\I n ⟨a.tmps,[]⟩ σ) n ⟨ms,σ,hs,hd,h0⟩ ?_
  rintro n a w ⟨ms,σ,hs,hd,h⟩
  refine Nw (ih r hr _ _ _ _ _ _ _ _ hd (hI _ _ _ h) hs) (VF ?_)
  rintro ms a σ w ⟨σ',hsub,m,hlt,h⟩ hd hs
  exact ⟨m,hlt,ms,σ',hs.sub hsub,hd,h⟩
 | exit id=>intro r hr B w0 M ms Q a σ w hd h hs;exact wpIn_exit ⟨ms,σ,hs,hd,h⟩
 | ret=>intro r hr B w0 M ms Q a σ w hd h hs;exact wpIn_ret ⟨ms,σ,hs,hd,h⟩
 | rangeFunc g ps asg body iha ihb=>
  intro r hr B w0 M ms Q a σ w hd h hs
  obtain rfl:r=none:=by
   rcases hr with hr | hr
   ·exact hr
   ·cases hr
  simp only [awp] at h
  split at h<;>first | exact h.elim | skip
  rename_i ha hb
  refine wpIn_rangeFunc (F:=FW none) ?_
  intro fn _
  have hs1:=hs.mark
  obtain ⟨hl,hs2⟩:=hs1.new (Kt fn a.tmps ps asg body w.heap.size .ready none)
  have hl':σ (w.heap.size+1)=none:=by simpa using hl
  have hent:=h (w.heap.size+1) (Kt fn a.tmps ps asg body w.heap.size) hl' (fun args s1 R h1 h2=>by
   show OF P _ (Wa #[] args) s1 R
   rw [Sw,Array.empty_append]
   exact WU (fun B w0 M ms Q a σ w=>iha (some _) (.inr ha) B w0 M ms Q a σ w) (fun B w0 M ms Q a σ w=>ihb (some _) (.inr hb) B w0 M ms Q a σ w) h1 h2.1 h2.2)
  rw [Oa] at hent
  obtain ⟨gf,first,caps,hg,he,hcall⟩:=Wz hent
  have hs2':Sat B w0 (w.heap.size::ms++M) (σ.ins (w.heap.size+1) (Kt fn a.tmps ps asg body w.heap.size .ready none)) ((w.alloc (.deferred (some []))).alloc (Kt fn a.tmps ps asg body w.heap.size .ready none)):=by
   have e:({ w with heap:=w.heap.push (.deferred (some [])) }:World).heap.size=w.heap.size+1:=by simp
   rw [e] at hs2
   exact hs2
  refine ⟨w.heap.size+1,[markD w.heap.size],_,⟨.fn (.func gf) caps,first++#[.func (.yield (w.heap.size+1)) #[] #[]]⟩,(w.alloc (.deferred (some []))).alloc (Kt fn a.tmps ps asg body w.heap.size .ready none),gf,_,_,run_enterLoop_outer _ _ _ _ _,?_,fun _ _=>trivial,U1 he,fun h=>by simp [FW,Fence.wide] at h,?_⟩
  ·have e1:(rangeCall g (w.heap.size+1)).args.map a.eval=#[.func (.yield (w.heap.size+1)) #[] #[]]:=by simp [Act.eval]
   show (Deferred.ofValue (a.eval g) ((rangeCall g (w.heap.size+1)).args.map a.eval)).run P _=_
   rw [hg,e1]
   rfl
  ·have h1:CallsIn Fence.wide (0-1) P gf (first++#[.func (.yield (w.heap.size+1)) #[] #[]]++caps) _ _:=callsIn_wide.2 (hcall B w0 _ _ hs2')
   refine CallsIn.mono h1 ?_
   rintro e w3 ⟨v,s3,rfl,⟨st,pend,hl3,hst,haft⟩,hs3⟩
   refine ⟨pend,_,run_endLoop (hs3.holds _ _ _ hl3).1 (by simpa using hst),?_⟩
   have hs4:=Np hs3 hl3 (Kt fn a.tmps ps asg body w.heap.size .exhausted pend)
   have hd4:([markD w.heap.size]++a.defers)=(w.heap.size::ms).map markD:=by simp [hd]
   unfold VT at haft
   split at haft
   ·exact ⟨_,_,hs4,hd4,haft⟩
   ·exact wpIn_ret ⟨_,_,hs4,hd4,haft⟩
   ·exact wpIn_exit ⟨_,_,hs4,hd4,haft⟩
   ·exact haft.elim
 | scope b=>intro r hr B w0 M ms Q a σ w hd h;exact (h:False).elim
 | label l=>intro r hr B w0 M ms Q a σ w hd h;exact (h:False).elim
 | goto l=>intro r hr B w0 M ms Q a σ w hd h;exact (h:False).elim
 | refuse why=>intro r hr B w0 M ms Q a σ w hd h;exact (h:False).elim
def X8 (P:Program) (a:Act) (σ:Hp) (r:ResultVar) (k:Value->Prop):Prop:=
 match r with
 | .tmp t=>k (a.tmps.getD t undef)
 | .cell ad t=>match a.tmps.getD ad undef with
  | .pointer p=>dr p fun b off=>
   match GT P t with
   | true=>match (Bi P 8 t).length==P.cellsOf t with
    | true=>lfs σ (Bi P 8 t) b off 0 fun vs=>k (.agg vs.toArray)
    | false=>False
   | false=>match P.underlying t with
    | some _=>lf σ (RQ P t) b off k
    | none=>False
  | _=>False
def Ws (P:Program) (a:Act) (σ:Hp):List ResultVar->(List Value->Prop)->Prop
 | [],k=>k []
 | r::rs,k=>X8 P a σ r fun v=>Ws P a σ rs fun vs=>k (v::vs)
def Tn:List Value->Value
 | [v]=>v
 | vs=>.tuple vs.toArray
def YL (P:Program) (fn:Func) (R:Value->Hp->Prop):Exit->Act->Hp->Prop
 | .normal,a,σ | .ret,a,σ=>match a.defers with
  | []=>Ws P a σ fn.results.toList fun vs=>∃ σ',Hp.Sub σ' σ/\R (Tn vs) σ'
  | _=>False
 | _,_,_=>False
theorem WE {P:Program} {a:Act} {σ:Hp} {r:ResultVar} {k:Value->Prop} (h:X8 P a σ r k):
  ywp P (match r with
   | .tmp t=>pure (a.tmps.getD t undef)
   | .cell ad t=>do loadVar t (← asAddr (a.tmps.getD ad undef))) k σ:=by
 unfold X8 at h
 split at h
 ·exact h
 ·split at h<;>first | exact h.elim | skip
  rename_i p e
  obtain ⟨b,off,rfl,h⟩:=Hb h
  simp only [e]
  exact OZ h
theorem W7 {P:Program} {a:Act} {σ:Hp}:∀ (rs:List ResultVar) (k:List Value->Prop),Ws P a σ rs k ->
  ywp P (rs.mapM fun r=>match r with
   | .tmp t=>(pure (a.tmps.getD t undef):Sem Value)
   | .cell ad t=>do loadVar t (← asAddr (a.tmps.getD ad undef))) k σ:=by
 intro rs
 induction rs with
 | nil=>intro k h;exact h
 | cons r rs ih=>
  intro k h
  rw [List.mapM_cons]
  refine AO _ _ _ _ (Cq _ _ ?_ (WE h))
  intro v hv
  exact AO _ _ _ _ (Cq _ _ (fun vs hvs=>hvs) (ih _ hv))
theorem ZT (vs:List Value):Tn vs=if h:vs.toArray.size=1 then vs.toArray[0] else .tuple vs.toArray:=by
 match vs with
 | []=>rfl
 | [v]=>rfl
 | v::u::r=>simp [Tn]
theorem SP {P:Program} {fn:Func} {a:Act} {σ:Hp} {k:List Value->Prop} (h:Ws P a σ fn.results.toList k):
  ∃ vs,k vs/\∀ w,Ss σ w->(results fn a.tmps).run P w=.ok (Tn vs) w:=by
 have h1:ywp P (results fn a.tmps) (fun v=>∃ vs,v=Tn vs/\k vs) σ:=by
  unfold results
  rw [Array.mapM_eq_mapM_toList]
  refine AO _ _ _ _ ?_
  show ywp P ((fun l:List Value=>l.toArray) <$> _) _ σ
  refine AO (P:=P) (List.mapM _ fn.results.toList) _ _ _ (Cq _ _ ?_ (W7 _ _ h))
  intro vs hvs
  exact ⟨vs,(ZT vs).symm,hvs⟩
 obtain ⟨v,⟨vs,rfl,hk⟩,hr⟩:=Ls _ _ _ h1
 exact ⟨vs,hk,hr⟩
theorem R1 {P:Program} {fn:Func} {tmps:Array Value} {B:Nat} {w0:World} {M:List Nat} {R:Ending->World->Prop} {v:Value} {σ:Hp} (hr:∀ w,Ss σ w->(results fn tmps).run P w=.ok v w) (hR:∀ w,Sat B w0 M σ w->R (.returned v) w):∀ (ms:List Nat) (w:World),Sat B w0 (ms++M) σ w ->
  LeavesInM Fence.wide 0 P fn tmps R (ms.map markD) .returning w:=by
 intro ms
 induction ms with
 | nil=>intro w hs;exact ⟨v,hr w hs.hold,hR w hs⟩
 | cons m ms ih=>
  intro w hs
  refine ⟨by simp,.inl ⟨m,_,rfl,run_takeDeferred (hs.marks m (List.mem_cons_self ..)).1,?_⟩⟩
  exact ih _ (hs.unmark _)
theorem QY {P:Program} (hm:P.follows .mixedOrders=true) {f:FuncId} {fn:Func} {c:Code} {args:Array Value} {σ:Hp} {R:Value->Hp->Prop}
  (hf:P.funcs[f]? = some fn) (hb:fn.body=some c) (h:awp P c (YL P fn R) { tmps:=args++Array.replicate (fn.ntmps-args.size) undef,defers:=[] } σ):FN P f args σ R:=by
 intro B w0 M w hs
 refine callsIn_wide (n:=0).1 (callsIn_of_wp_marks hf hb trivial (Nw (X5 hm c none (.inl rfl) B w0 M [] _ _ _ _ rfl h hs) ?_))
 intro e a w h
 have key:(∃ ms σ,Sat B w0 (ms++M) σ w/\a.defers=ms.map markD/\YL P fn R .ret ⟨a.tmps,[]⟩ σ)->LeavesInM Fence.wide 0 P fn a.tmps (fun e w'=>∃ v σ',e=.returned v/\R v σ'/\Sat B w0 M σ' w') a.defers .returning w:=by
  rintro ⟨ms,σ,hs,hd,h⟩
  simp only [YL] at h
  obtain ⟨vs,⟨σ',hsub,hR⟩,hr⟩:=SP h
  rw [hd]
  exact R1 hr (fun w hs=>⟨_,σ',rfl,hR,hs.sub hsub⟩) ms w hs
 cases e with
 | normal=>exact key h
 | ret=>exact key h
 | exit id=>obtain ⟨ms,σ,_,_,h⟩:=h;exact h.elim
 | goto l=>obtain ⟨ms,σ,_,_,h⟩:=h;exact h.elim
 | panic c=>exact h.elim
 | outgrown=>exact h.elim
theorem Ib {ops:Array Oper} {i:Nat} {v:Value} {k k':Value->Prop} (hk:∀ v,k v->k' v) (h:gsp ops i v k):gsp ops i v k':=by
 unfold gsp at h ⊢
 split at h
 ·split at h
  ·exact PP (hk _) (hk _) h
  ·exact hk _ h
 ·exact hk _ h
def Wv (ops:Array Oper):List Nat:=ops.toList.filterMap (·.dst)
def Dv (W:List Nat) (a a':Act):Prop:=a'.tmps.size=a.tmps.size/\a'.defers=a.defers/\∀ s,s ∉ W->a'.tmps[s]? = a.tmps[s]?
theorem Dv.refl (W:List Nat) (a:Act):Dv W a a:=⟨rfl,rfl,fun _ _=>rfl⟩
theorem Dv.trans {W:List Nat} {a b c:Act} (h:Dv W a b) (k:Dv W b c):Dv W a c:=⟨k.1.trans h.1,k.2.1.trans h.2.1,fun s hs=>(k.2.2 s hs).trans (h.2.2 s hs)⟩
theorem Dv.more {W W':List Nat} {a b:Act} (h:Dv W a b) (hw:∀ s,s∈W->s∈W'):Dv W' a b:=⟨h.1,h.2.1,fun s hs=>h.2.2 s fun e=>hs (hw s e)⟩
theorem Dv.put {W:List Nat} (a:Act) (d:Option Tmp) (v:Value) (h:∀ s,d=some s->s∈W):Dv W a (a.put d v):=by
 cases d with
 | none=>exact Dv.refl _ _
 | some s=>
  refine ⟨by simp [Act.put],rfl,fun t ht=>?_⟩
  have:s≠t:=fun e=>ht (e▸h s rfl)
  simp [Act.put,Array.getElem?_setIfInBounds_ne this]
theorem Mw {P:Program} {ops:Array Oper} {i:Nat} {K K':Act->Hp->Prop} {a:Act} {σ:Hp} (hk:∀ a' σ',Dv (Wv ops) a a'->K a' σ'->K' a' σ') (h:B9 P ops i K a σ):B9 P ops i K' a σ:=by
 unfold B9 at h ⊢
 split at h
 ·exact hk _ _ (Dv.refl _ _) h
 ·rename_i o ho
  have hm:∀ s,o.dst=some s->s∈Wv ops:=fun s hs=>List.mem_filterMap.2 ⟨o,by simpa using Array.mem_of_getElem? ho,hs⟩
  split at h
  ·exact FA (fun v σ' hv=>Ib (fun u hu=>hk _ _ (Dv.put _ _ _ hm) hu) hv) h
  ·exact hk _ _ (Dv.put _ _ _ hm) h
theorem V0 {P:Program} {ops:Array Oper} {K K':Act->Hp->Prop} (l:List Nat):∀ (a:Act) (σ:Hp),(∀ a' σ',Dv (Wv ops) a a'->K a' σ'->K' a' σ')->Wh P ops K l a σ->Wh P ops K' l a σ:=by
 induction l with
 | nil=>intro a σ hk h;exact hk _ _ (Dv.refl _ _) h
 | cons i rest ih=>
  intro a σ hk h
  exact Mw (fun a' σ' hka h'=>ih a' σ' (fun a'' s'' hk2 hK=>hk _ _ (hka.trans hk2) hK) h') h
theorem Tu {P:Program} {ops:Array Oper} {K K':Act->Hp->Prop} (pl:Mn):∀ (a:Act) (σ:Hp),(∀ a' σ',Dv (Wv ops) a a'->K a' σ'->K' a' σ')->CE P ops pl K a σ->CE P ops pl K' a σ:=by
 induction pl with
 | done=>intro a σ hk h;exact hk _ _ (Dv.refl _ _) h
 | take i g p ih=>
  intro a σ hk h
  simp only [CE] at h ⊢
  split at h<;>first | exact h.elim | skip
  rename_i o ho
  have hm:∀ s,o.dst=some s->s∈Wv ops:=fun s hs=>List.mem_filterMap.2 ⟨o,by simpa using Array.mem_of_getElem? ho,hs⟩
  split at h
  ·exact IT (fun v hv=>Ib (fun u hu=>ih _ _ (fun a' σ' hk2 hK=>hk _ _ ((Dv.put _ _ _ hm).trans hk2) hK) hu) hv) h
  ·exact ih _ _ (fun a' σ' hk2 hK=>hk _ _ ((Dv.put _ _ _ hm).trans hk2) hK) h
 | new i g p ih=>
  intro a σ hk h
  exact Mw (fun a' σ' hka h'=>ih _ _ (fun a'' s'' hk2 hK=>hk _ _ (hka.trans hk2) hK) h') h
 | alt i g hh p more ihp ihm=>
  intro a σ hk h
  exact ⟨Mw (fun a' σ' hka h'=>⟨h'.1,ihp _ _ (fun a'' s'' hk2 hK=>hk _ _ (hka.trans hk2) hK) h'.2⟩) h.1,fun e=>ihm _ _ hk (h.2 e)⟩
def wrs:Code->List Nat
 | .region _ ops _=>Wv ops
 | .seq x y=>wrs x++wrs y
 | .cond _ x y=>wrs x++wrs y
 | .block _ x=>wrs x
 | .loop x=>wrs x
 | _=>[]
theorem V8 {Q Q':Exit->Act->Hp->Prop} {a:Act} {σ:Hp} {p:Option Code} (hq:∀ e,Q e a σ->Q' e a σ) (h:VT Q a σ p):VT Q' a σ p:=by
 unfold VT at h ⊢
 split at h<;>first | exact hq _ h | exact h.elim
theorem WI {P:Program} {gv:Value} {σ:Hp} {B B':Nat->RecT->Array Value->Hp->(Value->Hp->Prop)->Prop} {A A':Option Code->Hp->Prop}
  (hb:∀ l Rec args σ R,B l Rec args σ R->B' l Rec args σ R) (ha:∀ p σ,A p σ->A' p σ) (h:Aax P gv σ B A):Aax P gv σ B' A':=
 fun l Rec hl hy=>(h l Rec hl fun args s1 R h1 h2=>by
  exact hy args s1 R h1 (by first | exact h2 | exact hb _ _ _ _ _ h2)).mono fun _ _ ⟨st,pend,h1,h2,h3⟩=>⟨st,pend,h1,h2,ha _ _ h3⟩
theorem GH {P:Program} (c:Code):∀ (Q Q':Exit->Act->Hp->Prop) (a:Act) (σ:Hp),(∀ e a' σ',Dv (wrs c) a a'->Q e a' σ'->Q' e a' σ')->awp P c Q a σ->awp P c Q' a σ:=by
 induction c with
 | skip=>intro Q Q' a σ hk h;exact hk _ _ _ (Dv.refl _ _) h
 | region id ops draw=>
  intro Q Q' a σ hk h
  cases draw with
  | false=>exact V0 _ _ _ (fun a' σ' hka hq=>hk _ _ _ hka hq) h
  | true=>
   simp only [awp] at h ⊢
   split at h<;>first | exact h.elim | skip
   obtain ⟨mm,pl,hok,h⟩:=h
   exact ⟨mm,pl,hok,Tu _ _ _ (fun a' σ' hka hq=>hk _ _ _ hka hq) h⟩
 | seq x y ihx ihy=>
  intro Q Q' a σ hk h
  refine ihx _ _ _ _ ?_ h
  intro e a' σ' hka hq
  cases e with
  | normal=>exact ihy _ _ _ _ (fun e a'' s'' hk2 hq=>hk _ _ _ ((hka.more fun s hs=>List.mem_append_left _ hs).trans (hk2.more fun s hs=>List.mem_append_right _ hs)) hq) hq
  | exit id=>exact hk _ _ _ (hka.more fun s hs=>List.mem_append_left _ hs) hq
  | goto l=>exact hk _ _ _ (hka.more fun s hs=>List.mem_append_left _ hs) hq
  | ret=>exact hk _ _ _ (hka.more fun s hs=>List.mem_append_left _ hs) hq
  | panic ch=>exact hk _ _ _ (hka.more fun s hs=>List.mem_append_left _ hs) hq
  | outgrown=>exact hk _ _ _ (hka.more fun s hs=>List.mem_append_left _ hs) hq
 | cond c x y ihx ihy=>
  intro Q Q' a σ hk h
  simp only [awp] at h ⊢
  split at h<;>first | exact h.elim | skip
  exact PP (ihx _ _ _ _ fun e a' σ' hka hq=>hk _ _ _ (hka.more fun s hs=>List.mem_append_left _ hs) hq)
   (ihy _ _ _ _ fun e a' σ' hka hq=>hk _ _ _ (hka.more fun s hs=>List.mem_append_right _ hs) hq) h
 | block id body ih=>
  intro Q Q' a σ hk h
  refine ih _ _ _ _ ?_ h
  intro e a' σ' hka hq
  cases e with
  | exit id'=>
   simp only [K8] at hq ⊢
   split at hq<;>exact hk _ _ _ hka hq
  | normal=>exact hk _ _ _ hka hq
  | goto l=>exact hk _ _ _ hka hq
  | ret=>exact hk _ _ _ hka hq
  | panic ch=>exact hk _ _ _ hka hq
  | outgrown=>exact hk _ _ _ hka hq
 | loop body ih=>
  intro Q Q' a σ hk h
  obtain ⟨I,⟨n,h0⟩,hI⟩:=h
  refine ⟨fun n a' σ'=>Dv (wrs body) a a'/\I n a' σ',⟨n,Dv.refl _ _,h0⟩,?_⟩
  rintro n a1 s1 ⟨hka,h⟩
  refine ih _ _ _ _ ?_ (hI _ _ _ h)
  intro e a' σ' hk2 hq
  cases e with
  | normal=>obtain ⟨s'',hs,m,hm,hq⟩:=hq;exact ⟨s'',hs,m,hm,hka.trans hk2,hq⟩
  | exit id'=>exact hk _ _ _ (hka.trans hk2) hq
  | goto l=>exact hk _ _ _ (hka.trans hk2) hq
  | ret=>exact hk _ _ _ (hka.trans hk2) hq
  | panic ch=>exact hk _ _ _ (hka.trans hk2) hq
  | outgrown=>exact hk _ _ _ (hka.trans hk2) hq
 | exit id=>intro Q Q' a σ hk h;exact hk _ _ _ (Dv.refl _ _) h
 | ret=>intro Q Q' a σ hk h;exact hk _ _ _ (Dv.refl _ _) h
 | rangeFunc f ps asg b _ _=>
  intro Q Q' a σ hk h
  simp only [awp] at h ⊢
  split at h<;>first | exact h.elim | skip
  exact WI (fun _ _ _ _ _ h=>h) (fun p σ h=>V8 (fun e he=>hk _ _ _ (Dv.refl _ _) he) h) h
 | scope b=>intro Q Q' a σ hk h;exact (h:False).elim
 | label l=>intro Q Q' a σ hk h;exact (h:False).elim
 | goto l=>intro Q Q' a σ hk h;exact (h:False).elim
 | refuse why=>intro Q Q' a σ hk h;exact (h:False).elim
def Ty1:Sh->Type
 | .bool=>Bool
 | .int _=>Int
 | .str=>ByteArray
 | .ptr=>aA
 | .slc=>aA×Nat×Nat
 | .mp=>Option Nat
 | .any=>Value
def Ou:(s:Sh)->Ty1 s->Value
 | .bool,x=>.bool x
 | .int k,n=>.int k n
 | .str,x=>.string x
 | .ptr,p=>.pointer p
 | .slc,x=>.slice x.1 x.2.1 x.2.2
 | .mp,r=>.map r
 | .any,v=>v
def Wo:(s:Sh)->Value->Option (Ty1 s)
 | .bool,.bool x=>some x
 | .int k,.int k' n=>match QH k k' with
  | true=>some n
  | false=>none
 | .str,.string x=>some x
 | .ptr,.pointer p=>some p
 | .slc,.slice A n c=>some (A,n,c)
 | .mp,.map r=>some r
 | .any,v=>match Gg v with
  | true=>some v
  | false=>none
 | _,_=>none
theorem Nr {s:Sh} {v:Value} {x:Ty1 s} (h:Wo s v=some x):v=Ou s x/\Gg v=true:=by
 cases s<;>cases v<;>simp only [Wo] at h<;>try (cases h;done)
 all_goals first
  | (cases h;exact ⟨rfl,rfl⟩)
  | (split at h<;>first | (rename_i hs;first | (obtain rfl:=H7 hs;cases h;exact ⟨rfl,rfl⟩) | (cases h;exact ⟨rfl,hs⟩)) | cases h)
def TyC:List Sh->Sh->Type
 | [],s=>Ty1 s
 | t::ss,s=>Ty1 s×TyC ss t
def TyR:List Sh->Type
 | []=>Unit
 | s::ss=>TyC ss s
def Mb:(ss:List Sh)->(s:Sh)->TyC ss s->List Value
 | [],s,x=>[Ou s x]
 | t::ss,s,x=>Ou s x.1::Mb ss t x.2
def BO:(ss:List Sh)->TyR ss->List Value
 | [],_=>[]
 | s::ss,x=>Mb ss s x
def VM {α β:Type}:Option α->Option β->Option (α×β)
 | some x,some y=>some (x,y)
 | _,_=>none
theorem Mz {α β:Type} {a:Option α} {b:Option β} {x:α×β} (h:VM a b=some x):a=some x.1/\b=some x.2:=by
 cases a with
 | none=>cases h
 | some a=>cases b with
  | none=>cases h
  | some b=>cases h;exact ⟨rfl,rfl⟩
def AaS:(ss:List Sh)->(s:Sh)->List Value->Option (TyC ss s)
 | [],s,vs=>match vs with
  | [v]=>Wo s v
  | _=>none
 | t::ss,s,vs=>match vs with
  | v::us=>VM (Wo s v) (AaS ss t us)
  | []=>none
def AaC:(ss:List Sh)->List Value->Option (TyR ss)
 | [],vs=>match vs with
  | []=>some ()
  | _=>none
 | s::ss,vs=>AaS ss s vs
def Aaw:(ss:List Sh)->(s:Sh)->TyC ss s->Nat->Value->Option (TyC ss s)
 | [],s,_,j,v=>match j with
  | 0=>Wo s v
  | _=>none
 | t::ss,s,x,j,v=>match j with
  | 0=>VM (Wo s v) (some x.2)
  | j+1=>VM (some x.1) (Aaw ss t x.2 j v)
def setR:(ss:List Sh)->TyR ss->Nat->Value->Option (TyR ss)
 | [],_,_,_=>none
 | s::ss,x,j,v=>Aaw ss s x j v
theorem OY:∀ (ss:List Sh) (s:Sh) (x:TyC ss s),(Mb ss s x).length=ss.length+1
 | [],_,_=>rfl
 | t::ss,s,x=>by simp only [Mb,List.length_cons,OY ss t x.2]
theorem Bv:∀ (ss:List Sh) (x:TyR ss),(BO ss x).length=ss.length
 | [],_=>rfl
 | s::ss,x=>OY ss s x
theorem X4:∀ (ss:List Sh) (s:Sh) (vs:List Value) (x:TyC ss s),AaS ss s vs=some x->vs=Mb ss s x/\∀ v∈vs,Gg v=true:=by
 intro ss
 induction ss with
 | nil=>
  intro s vs x h
  match vs,h with
  | [v],h=>
   have:=Nr (s:=s) (v:=v) (x:=x) h
   exact ⟨by rw [this.1];rfl,fun u hu=>by rw [List.mem_singleton.1 hu];exact this.2⟩
 | cons t ss ih=>
  intro s vs x h
  match vs,h with
  | v::us,h=>
   obtain ⟨h1,h2⟩:=Mz h
   have h1:=Nr h1
   have h2:=ih t us x.2 h2
   refine ⟨by show _=Ou s x.1::Mb ss t x.2;rw [← h1.1,← h2.1],?_⟩
   intro u hu
   rcases List.mem_cons.1 hu with rfl | hu
   ·exact h1.2
   ·exact h2.2 u hu
theorem T0 {ss:List Sh} {vs:List Value} {x:TyR ss} (h:AaC ss vs=some x):vs=BO ss x/\∀ v∈vs,Gg v=true:=by
 cases ss with
 | nil=>
  match vs,h with
  | [],_=>exact ⟨rfl,fun v hv=>by cases hv⟩
 | cons s ss=>exact X4 _ _ _ _ h
theorem Xa:∀ (ss:List Sh) (s:Sh) (x y:TyC ss s) (j:Nat) (v:Value),Aaw ss s x j v=some y->j<ss.length+1/\Mb ss s y=(Mb ss s x).set j v/\Gg v=true:=by
 intro ss
 induction ss with
 | nil=>
  intro s x y j v h
  match j,h with
  | 0,h=>
   have:=Nr (s:=s) (v:=v) (x:=y) h
   exact ⟨by simp,by show [Ou s y]=[v];rw [← this.1],this.2⟩
 | cons t ss ih=>
  intro s x y j v h
  match j,h with
  | 0,h=>
   obtain ⟨h1,h2⟩:=Mz h
   have h1:=Nr h1
   have h2:x.2=y.2:=by injection h2
   exact ⟨by simp,by show Ou s y.1::Mb ss t y.2=v::Mb ss t x.2;rw [← h1.1,h2],h1.2⟩
  | j+1,h=>
   obtain ⟨h1,h2⟩:=Mz h
   have h2:=ih _ _ _ _ _ h2
   have h1:x.1=y.1:=by injection h1
   exact ⟨by simpa using h2.1,by show Ou s y.1::Mb ss t y.2=Ou s x.1::(Mb ss t x.2).set j v;rw [← h2.2.1,h1],h2.2.2⟩
theorem MW {ss:List Sh} {x y:TyR ss} {j:Nat} {v:Value} (h:setR ss x j v=some y):j<ss.length/\BO ss y=(BO ss x).set j v/\Gg v=true:=by
 cases ss with
 | nil=>cases h
 | cons s ss=>exact Xa _ _ _ _ _ _ h
def Row (cells:Array Value) (off:Nat) (ss:List Sh) (xs:List (TyR ss)):Prop:=
 ∀ i j (h:i<xs.length),j<ss.length->cells[off+(i*ss.length+j)]? = (BO ss xs[i])[j]?
theorem Zx {w i j i' j':Nat} (hj:j<w) (hj':j'<w) (h:i*w+j=i'*w+j'):i=i'/\j=j':=by
 have h1:(i*w+j) / w=i:=by rw [Nat.mul_comm,Nat.mul_add_div (by omega),Nat.div_eq_of_lt hj];omega
 have h2:(i'*w+j') / w=i':=by rw [Nat.mul_comm,Nat.mul_add_div (by omega),Nat.div_eq_of_lt hj'];omega
 have:i=i':=by rw [← h1,← h2,h]
 subst this
 exact ⟨rfl,by omega⟩
theorem Oc {w i j n:Nat} (hi:i<n) (hj:j<w):i*w+j<n*w:=by
 calc i*w+j<i*w+w:=by omega
  _=(i+1)*w:=by rw [Nat.add_mul];omega
  _<=n*w:=Nat.mul_le_mul_right _ hi
def CN (ss:List Sh) (xs:List (TyR ss)):List Value:=xs.flatMap (BO ss)
theorem BL (ss:List Sh):∀ xs:List (TyR ss),(CN ss xs).length=xs.length*ss.length
 | []=>by simp [CN]
 | x::xs=>by
  have:=BL ss xs
  unfold CN at this ⊢
  rw [List.flatMap_cons,List.length_append,this,Bv,List.length_cons,Nat.add_mul]
  omega
theorem Ky (ss:List Sh):∀ (xs:List (TyR ss)) (i j:Nat) (h:i<xs.length),j<ss.length->(CN ss xs)[i*ss.length+j]? = (BO ss xs[i])[j]?
 | [],i,j,h,_=>by simp at h
 | x::xs,0,j,h,hj=>by
  unfold CN
  rw [List.flatMap_cons,List.getElem?_append_left (by rw [Bv];omega)]
  simp
 | x::xs,i+1,j,h,hj=>by
  have:=Ky ss xs i j (by simpa using h) hj
  unfold CN at this ⊢
  rw [List.flatMap_cons,List.getElem?_append_right (by rw [Bv,Nat.add_mul];omega),Bv]
  have e:(i+1)*ss.length+j-ss.length=i*ss.length+j:=by rw [Nat.add_mul];omega
  rw [e,this]
  simp
theorem Pa (ss:List Sh) (xs ys:List (TyR ss)):CN ss (xs++ys)=CN ss xs++CN ss ys:=by simp [CN]
theorem Row.of_flat {cells:Array Value} {off:Nat} {ss:List Sh} {xs:List (TyR ss)} (h:∀ i,i<xs.length*ss.length->cells[off+i]? = (CN ss xs)[i]?):Row cells off ss xs:=fun i j hi hj=>by
 rw [h _ (Oc hi hj),Ky ss xs i j hi hj]
theorem Row.to_flat {cells:Array Value} {off:Nat} {ss:List Sh} {xs:List (TyR ss)} (h:Row cells off ss xs):∀ i,i<xs.length*ss.length->cells[off+i]? = (CN ss xs)[i]? := fun i hi=>by
 have hw:0<ss.length:=by
  rcases Nat.eq_zero_or_pos ss.length with e | e
  ·rw [e] at hi;omega
  ·exact e
 have h1:i / ss.length<xs.length:=Nat.div_lt_of_lt_mul (by rw [Nat.mul_comm];exact hi)
 have h2:=Nat.mod_lt i hw
 have h3:i / ss.length*ss.length+i%ss.length=i:=by rw [Nat.mul_comm];exact Nat.div_add_mod i ss.length
 have:=h _ _ h1 h2
 rw [h3] at this
 rw [this,← Ky ss xs _ _ h1 h2,h3]
theorem Row.set {cells:Array Value} {off:Nat} {ss:List Sh} {xs:List (TyR ss)} (h:Row cells off ss xs) {i j:Nat} (hi:i<xs.length) {v:Value} {r:TyR ss} (hs:setR ss xs[i] j v=some r) (hb:off+(i*ss.length+j)<cells.size):
  Row (cells.setIfInBounds (off+(i*ss.length+j)) v) off ss (xs.set i r):=fun i' j' hi' hj'=>by
 obtain ⟨hj,he,_⟩:=MW hs
 simp only [List.length_set] at hi'
 rw [Array.getElem?_setIfInBounds]
 by_cases e:i=i'
 ·subst e
  simp only [List.getElem_set_self]
  rw [he,List.getElem?_set]
  by_cases ej:j=j'
  ·subst ej
   rw [if_pos rfl,if_pos hb,if_pos rfl,if_pos (by rw [Bv];exact hj)]
  ·rw [if_neg (by omega),if_neg ej]
   exact h _ _ hi' hj'
 ·rw [if_neg (fun e'=>e (Zx hj hj' (by omega)).1),List.getElem_set_ne e]
  exact h _ _ hi' hj'
theorem Row.take {cells:Array Value} {off:Nat} {ss:List Sh} {xs:List (TyR ss)} (h:Row cells off ss xs) (n:Nat):Row cells off ss (xs.take n):=fun i j hi hj=>by
 simp only [List.length_take] at hi
 rw [List.getElem_take]
 exact h _ _ (by omega) hj
theorem Row.drop {cells:Array Value} {off:Nat} {ss:List Sh} {xs:List (TyR ss)} (h:Row cells off ss xs) (n:Nat):Row cells (off+n*ss.length) ss (xs.drop n):=fun i j hi hj=>by
 simp only [List.length_drop] at hi
 rw [List.getElem_drop,← h (n+i) j (by omega) hj]
 congr 1
 rw [Nat.add_mul]
 omega
def RdS (ss:List Sh) (σ:Hp) (A:aA) (n:Nat) (xs:List (TyR ss)):Prop:=
 n=xs.length/\(n=0∨∃ b off cells e f rw,A=some ⟨b,off,none⟩/\σ b=some (.cells cells e f,rw)/\Row cells off ss xs)
def Ak (e:TypeId) (ss:List Sh) (σ:Hp) (A:aA) (n c:Nat) (xs:List (TyR ss)) (σ':Hp):Prop:=
 (A=none/\n=0/\c=0/\xs=[]/\σ'=σ) ∨
 ∃ b off cells,A=some ⟨b,off,none⟩/\n=xs.length/\n<=c/\σ b=none/\σ'=σ.ins b (.cells cells e (0,0))/\off+c*ss.length<=cells.size/\Row cells off ss xs
def adp (e:TypeId) (ss:List Sh) (A:aA) (n c:Nat) (σ:Hp) (K:List (TyR ss)->Hp->Prop):Prop:=∃ xs σ',Ak e ss σ' A n c xs σ/\K xs σ'
def exl (e:TypeId) (ss:List Sh) (xs:List (TyR ss)) (σ:Hp) (K:aA->Nat->Nat->Hp->Prop):Prop:=∀ A n c σ',Ak e ss σ A n c xs σ'->K A n c σ'
theorem Ak.nil (e:TypeId) (ss:List Sh) (σ:Hp):Ak e ss σ none 0 0 [] σ:=.inl ⟨rfl,rfl,rfl,rfl,rfl⟩
theorem Fi {e:TypeId} {ss:List Sh} {σ:Hp} {K:List (TyR ss)->Hp->Prop}:adp e ss none 0 0 σ K↔K [] σ:=by
 refine ⟨?_,fun h=>⟨[],σ,Ak.nil e ss σ,h⟩⟩
 rintro ⟨xs,σ',h,hk⟩
 rcases h with ⟨_,_,_,rfl,rfl⟩ | ⟨b,off,cells,hA,_⟩
 ·exact hk
 ·cases hA
theorem Ak.len {e:TypeId} {ss:List Sh} {σ σ':Hp} {A:aA} {n c:Nat} {xs:List (TyR ss)} (h:Ak e ss σ A n c xs σ'):n=xs.length:=by
 rcases h with ⟨_,rfl,_,rfl,_⟩ | ⟨_,_,_,_,h,_⟩
 ·rfl
 ·exact h
theorem Ak.sub {e:TypeId} {ss:List Sh} {σ σ':Hp} {A:aA} {n c:Nat} {xs:List (TyR ss)} (h:Ak e ss σ A n c xs σ'):Hp.Sub σ σ':=by
 rcases h with ⟨_,_,_,_,rfl⟩ | ⟨b,_,_,_,_,_,hb,rfl,_⟩
 ·exact Hp.Sub.refl _
 ·exact Hp.Sub.ins _ hb
theorem Ak.rd {e:TypeId} {ss:List Sh} {σ σ':Hp} {A:aA} {n c:Nat} {xs:List (TyR ss)} (h:Ak e ss σ A n c xs σ'):RdS ss σ' A n xs:=by
 rcases h with ⟨_,rfl,_,rfl,_⟩ | ⟨b,off,cells,hA,hn,_,_,rfl,_,hr⟩
 ·exact ⟨rfl,.inl rfl⟩
 ·exact ⟨hn,.inr ⟨b,off,cells,e,(0,0),true,hA,by simp [Hp.ins],hr⟩⟩
theorem RdS.sub {ss:List Sh} {σ σ':Hp} {A:aA} {n:Nat} {xs:List (TyR ss)} (h:RdS ss σ A n xs) (hs:Hp.Sub σ σ'):RdS ss σ' A n xs:=by
 refine ⟨h.1,h.2.imp id ?_⟩
 rintro ⟨b,off,cells,e,f,rw,hA,hb,hr⟩
 exact ⟨b,off,cells,e,f,rw,hA,hs _ _ hb,hr⟩
theorem RdS.cell {ss:List Sh} {σ:Hp} {A:aA} {n:Nat} {xs:List (TyR ss)} (h:RdS ss σ A n xs) {i:Nat} (hi:i<xs.length):∃ b off,A=some ⟨b,off,none⟩/\∀ j,j<ss.length->σ.cell? ⟨b,off+(i*ss.length+j),none⟩=(BO ss xs[i])[j]? := by
 rcases h.2 with h0 | ⟨b,off,cells,e,f,rw,hA,hb,hr⟩
 ·have:=h.1;omega
 ·refine ⟨b,off,hA,fun j hj=>?_⟩
  unfold Hp.cell?
  simp only [hb]
  exact hr i j hi hj
def Frm (σ σc σ' sc':Hp):Prop:=Hp.Sub σ' sc'/\∀ b x,σ b=none->σc b=some x->sc' b=some x/\σ' b=none
theorem Frm.refl {σ σc:Hp} (h:Hp.Sub σ σc):Frm σ σc σ σc:=⟨h,fun _ _ h1 h2=>⟨h2,h1⟩⟩
theorem Frm.trans {σ σc σ' sc' s'' sc'':Hp} (h:Frm σ σc σ' sc') (k:Frm σ' sc' s'' sc''):Frm σ σc s'' sc'':=
 ⟨k.1,fun b x h1 h2=>let ⟨h3,h4⟩:=h.2 b x h1 h2;k.2 b x h4 h3⟩
theorem Frm.less {σ σc σ' s'' sc':Hp} (h:Frm σ σc σ' sc') (hs:Hp.Sub s'' σ'):Frm σ σc s'' sc':=
 ⟨hs.trans h.1,fun b x h1 h2=>⟨(h.2 b x h1 h2).1,by
  cases e:s'' b with
  | none=>rfl
  | some y=>have:=hs _ _ e;rw [(h.2 b x h1 h2).2] at this;cases this⟩⟩
theorem Frm.ins {σ σc:Hp} (h:Hp.Sub σ σc) {b:Nat} (hb:σc b=none) (o:Obj):Frm σ σc (σ.ins b o) (σc.ins b o):=by
 refine ⟨fun k x e=>?_,fun k x h1 h2=>?_⟩
 ·unfold Hp.ins at e ⊢
  split at e<;>rename_i hk
  ·rw [if_pos hk];exact e
  ·rw [if_neg hk];exact h _ _ e
 ·have:k≠b:=fun e=>by rw [e,hb] at h2;cases h2
  unfold Hp.ins
  rw [if_neg this,if_neg this]
  exact ⟨h2,h1⟩
def Af (P:Program) (f:FuncId) (args:Array Value) (σ:Hp) (R:Value->Hp->Prop):Prop:=
 ∀ σc,Hp.Sub σ σc->FN P f args σc fun v sc'=>∃ σ',R v σ'/\Frm σ σc σ' sc'
theorem Af.mono {P:Program} {f:FuncId} {args:Array Value} {σ:Hp} {R R':Value->Hp->Prop} (h:Af P f args σ R) (hr:∀ v σ',R v σ'->R' v σ'):Af P f args σ R':=
 fun σc hs=>(h σc hs).mono fun _ _ ⟨σ',hR,hf⟩=>⟨σ',hr _ _ hR,hf⟩
theorem Af.calls {P:Program} {f:FuncId} {args:Array Value} {σ:Hp} {R:Value->Hp->Prop} (h:Af P f args σ R):FN P f args σ fun v σ'=>∃ s'',Hp.Sub s'' σ'/\R v s'':=
 (h σ (Hp.Sub.refl _)).mono fun _ _ ⟨σ',hR,hf⟩=>⟨σ',hf.1,hR⟩
def B7 (P:Program) (f:Value) (args:Array Value) (σ:Hp) (R:Value->Hp->Prop):Prop:=
 ∀ σc,Hp.Sub σ σc->Ra P f args σc fun v sc'=>∃ σ',R v σ'/\Frm σ σc σ' sc'
theorem B7.mono {P:Program} {f:Value} {args:Array Value} {σ:Hp} {R R':Value->Hp->Prop} (h:B7 P f args σ R) (hr:∀ v σ',R v σ'->R' v σ'):B7 P f args σ R':=
 fun σc hs=>(h σc hs).mono fun _ _ ⟨σ',hR,hf⟩=>⟨σ',hr _ _ hR,hf⟩
theorem B7.func {P:Program} {g:FuncId} {first caps args:Array Value} {σ:Hp} {R:Value->Hp->Prop} (he:Ap P g=true) (h:Af P g (TO first args caps) σ R):B7 P (.func (.func g) first caps) args σ R:=
 fun σc hs=>⟨he,h σc hs⟩
def Abm (P:Program) (r:Value) (m:String) (args:Array Value) (σ:Hp) (R:Value->Hp->Prop):Prop:=match r with
 | .iface t v=>∃ f rv,ywp P (method (P.types.size+Made.depth) t v m) (fun x=>x=(f,rv)) σ/\Ap P f=true/\Af P f (Wa #[rv] args) σ R
 | _=>False
theorem I0 {α:Type} {P:Program} (s:Sem α):∀ {K:α->Hp->Prop} {σ σc:Hp},swp P s K σ->Hp.Sub σ σc->swp P s (fun a sc'=>∃ σ',K a σ'/\Frm σ σc σ' sc') σc:=by
 have cel:∀ {σ σc:Hp} {a:Addr} {v:Value},Hp.Sub σ σc->σ.cell? a=some v->σc.cell? a=some v:=by
  intro σ σc a v hs h
  unfold Hp.cell? at h ⊢
  split at h
  ·rename_i e;rw [hs _ _ e];exact h
  ·cases h
 induction s with
 | pure a=>intro K σ σc h hs;exact ⟨σ,h,Frm.refl hs⟩
 | load m a k ih=>intro K σ σc h hs;obtain ⟨v,hv,h⟩:=h;exact ⟨v,cel hs hv,ih v h hs⟩
 | store m a v k ih=>
  intro K σ σc h hs
  obtain ⟨h1,⟨c,e,hb,hlt,hsp⟩,h2⟩:=h
  have hf:Frm σ σc (σ.put a v) (σc.put a v):=by
   refine ⟨fun x y hy=>?_,fun x y h3 h4=>?_⟩
   ·unfold Hp.put at hy ⊢
    split at hy<;>rename_i hx
    ·rw [if_pos hx];subst hx;rw [hb] at hy;rw [hs _ _ hb];exact hy
    ·rw [if_neg hx];exact hs _ _ hy
   ·have:x≠a.block:=fun e=>by rw [e,hb] at h3;cases h3
    unfold Hp.put
    rw [if_neg this,if_neg this]
    exact ⟨h4,h3⟩
  exact ⟨h1,⟨c,e,hs _ _ hb,hlt,hsp⟩,Ba _ _ (fun _ _ ⟨σ',hk,hf'⟩=>⟨σ',hk,hf.trans hf'⟩) (ih h2 hf.1)⟩
 | new o k ih=>
  intro K σ σc h hs b hb
  have hb':σ b=none:=by
   cases e:σ b with
   | none=>rfl
   | some x=>have:=hs _ _ e;rw [hb] at this;cases this
  have hf:=Frm.ins hs hb o
  exact Ba _ _ (fun _ _ ⟨σ',hk,hf'⟩=>⟨σ',hk,hf.trans hf'⟩) (ih b (h b hb') hf.1)
 | shape r k ih=>intro K σ σc h hs;obtain ⟨o,rw,hb,h⟩:=h;exact ⟨o,rw,hs _ _ hb,ih _ h hs⟩
 | freeze a n k ih=>intro K σ σc h;exact h.elim
 | frozen a k ih=>intro K σ σc h hs;obtain ⟨o,rw,hb,h⟩:=h;exact ⟨o,rw,hs _ _ hb,ih _ h hs⟩
 | getObj r k ih=>intro K σ σc h hs;obtain ⟨o,rw,hb,hc,h⟩:=h;exact ⟨o,rw,hs _ _ hb,hc,ih _ h hs⟩
 | setObj r o k ih=>
  intro K σ σc h hs
  obtain ⟨o',hb,hc,h⟩:=h
  have hf:Frm σ σc (σ.ins r o) (σc.ins r o):=by
   refine ⟨fun x y hy=>?_,fun x y h3 h4=>?_⟩
   ·unfold Hp.ins at hy ⊢
    split at hy<;>rename_i hx
    ·rw [if_pos hx];exact hy
    ·rw [if_neg hx];exact hs _ _ hy
   ·have:x≠r:=fun e=>by rw [e,hb] at h3;cases h3
    unfold Hp.ins
    rw [if_neg this,if_neg this]
    exact ⟨h4,h3⟩
  exact ⟨o',hs _ _ hb,hc,Ba _ _ (fun _ _ ⟨σ',hk,hf'⟩=>⟨σ',hk,hf.trans hf'⟩) (ih h hf.1)⟩
 | choose q k ih=>intro K σ σc h hs t;exact ih _ (h t) hs
 | sys c k ih=>intro K σ σc h;exact h.elim
 | program k ih=>intro K σ σc h hs;exact ih _ h hs
 | mark m k ih=>intro K σ σc h hs;exact ih h hs
 | halt h=>intro K σ σc h;exact h.elim
inductive MC where
 | v (x:Value)
 | bx (k off:Nat)
 | ls (k g:Nat)
inductive MV where
 | v (x:Value)
 | bx (k off:Nat)
 | ls (k g:Nat)
 | ep (k g i j:Nat)
 | agg (cs:List MC)
inductive LObj where
 | box (e:TypeId) (cs:List MC)
 | lst (e:TypeId) (g:Nat) (ss:List Sh) (xs:List (TyR ss))
 | gone
 | lk
structure Loc where
 nil:Bool
 b:Nat
 off:Nat
 c:Nat
def Loc.addr (l:Loc):aA:=match l.nil with
 | true=>none
 | false=>some ⟨l.b,l.off,none⟩
inductive Bq {α β:Type} (R:α->β->Prop):List α->List β->Prop
 | nil:Bq R [] []
 | cons {a b xs ys}:R a b->Bq R xs ys->Bq R (a::xs) (b::ys)
theorem Bq.imp {α β:Type} {R S:α->β->Prop} (h:∀ a b,R a b->S a b):∀ {xs:List α} {ys:List β},Bq R xs ys->Bq S xs ys
 | _,_,.nil=>.nil
 | _,_,.cons x y=>.cons (h _ _ x) (y.imp h)
theorem Bq.length {α β:Type} {R:α->β->Prop}:∀ {xs:List α} {ys:List β},Bq R xs ys->xs.length=ys.length
 | _,_,.nil=>rfl
 | _,_,.cons _ y=>by simp [y.length]
theorem Bq.get {α β:Type} {R:α->β->Prop}:∀ {xs:List α} {ys:List β},Bq R xs ys->∀ {i:Nat} {a:α},xs[i]? = some a->∃ b,ys[i]? = some b/\R a b
 | _,_,.nil,i,a,h=>by simp at h
 | _,_,.cons (a:=a0) x y,0,a,h=>by simp at h;subst h;exact ⟨_,rfl,x⟩
 | _,_,.cons x y,i+1,a,h=>by simpa using y.get (by simpa using h)
theorem Bq.set {α β:Type} {R:α->β->Prop} {a:α} {b:β} (hr:R a b):∀ {xs:List α} {ys:List β},Bq R xs ys->∀ (i:Nat),Bq R (xs.set i a) (ys.set i b)
 | _,_,.nil,_=>.nil
 | _,_,.cons _ y,0=>.cons hr y
 | _,_,.cons x y,i+1=>.cons x (y.set hr i)
theorem Bq.append {α β:Type} {R:α->β->Prop}:∀ {xs xs':List α} {ys ys':List β},Bq R xs ys->Bq R xs' ys'->Bq R (xs++xs') (ys++ys')
 | _,_,_,_,.nil,h=>h
 | _,_,_,_,.cons x y,h=>.cons x (y.append h)
theorem Bq.take {α β:Type} {R:α->β->Prop}:∀ {xs:List α} {ys:List β},Bq R xs ys->∀ n,Bq R (xs.take n) (ys.take n)
 | _,_,.nil,n=>by simp;exact .nil
 | _,_,.cons x y,0=>.nil
 | _,_,.cons x y,n+1=>.cons x (y.take n)
theorem Bq.drop {α β:Type} {R:α->β->Prop}:∀ {xs:List α} {ys:List β},Bq R xs ys->∀ n,Bq R (xs.drop n) (ys.drop n)
 | _,_,.nil,n=>by simp;exact .nil
 | _,_,.cons x y,0=>.cons x y
 | _,_,.cons x y,n+1=>y.drop n
def CVc (n:Nat) (θ:Nat->Loc) (O:Nat->LObj):MC->Value->Prop
 | .v x,u=>u=x
 | .bx k o,u=>k<n/\∀ e cs,O k=.box e cs->u=.pointer (some ⟨(θ k).b,o,none⟩)
 | .ls k g,u=>k<n/\∀ e g' ss xs,O k=.lst e g' ss xs->g<=g'/\(g=g'->u=.slice (θ k).addr xs.length (θ k).c)
def CV (n:Nat) (θ:Nat->Loc) (O:Nat->LObj):MV->Value->Prop
 | .v x,u=>u=x
 | .bx k o,u=>k<n/\∀ e cs,O k=.box e cs->u=.pointer (some ⟨(θ k).b,o,none⟩)
 | .ls k g,u=>k<n/\∀ e g' ss xs,O k=.lst e g' ss xs->g<=g'/\(g=g'->u=.slice (θ k).addr xs.length (θ k).c)
 | .ep k g i j,u=>k<n/\∀ e g' ss xs,O k=.lst e g' ss xs->g<=g'/\(g=g'->i<xs.length/\(θ k).nil=false/\u=.pointer (some ⟨(θ k).b,(θ k).off+(i*ss.length+j),none⟩))
 | .agg cs,u=>∃ vs:List Value,u=.agg vs.toArray/\Bq (CVc n θ O) cs vs
def G1 (n:Nat) (θ:Nat->Loc) (O:Nat->LObj) (σc:Hp) (k:Nat):LObj->Prop
 | .box e cs=>∃ vs:List Value,σc (θ k).b=some (.cells vs.toArray e (0,0),true)/\Bq (CVc n θ O) cs vs
 | .lst e _ ss xs=>xs.length<=(θ k).c/\match (θ k).nil with
  | true=>(θ k).c=0
  | false=>∃ cells,σc (θ k).b=some (.cells cells e (0,0),true)/\(θ k).off+(θ k).c*ss.length<=cells.size/\Row cells (θ k).off ss xs
 | .gone=>True
 | .lk=>True
def blk (θ:Nat->Loc) (k:Nat):LObj->Option Nat
 | .box ..=>some (θ k).b
 | .lst ..=>match (θ k).nil with
  | true=>none
  | false=>some (θ k).b
 | .gone=>none
 | .lk=>none
def Ev (n:Nat) (θ:Nat->Loc) (O:Nat->LObj) (θ':Nat->Loc) (O':Nat->LObj):Prop:=∀ k,k<n ->
 (∀ e cs',O' k=.box e cs'->∃ cs,O k=.box e cs/\(θ' k).b=(θ k).b) /\
 (∀ e g' ss xs',O' k=.lst e g' ss xs'->∃ g xs,O k=.lst e g ss xs/\g<=g'/\(g=g'->xs.length=xs'.length/\θ' k=θ k))
theorem CVc.ev {n n':Nat} {θ θ':Nat->Loc} {O O':Nat->LObj} (he:Ev n θ O θ' O') (hn:n<=n') {m:MC} {u:Value} (h:CVc n θ O m u):CVc n' θ' O' m u:=by
 cases m with
 | v x=>exact h
 | bx k o=>
  refine ⟨by have:=h.1;omega,fun e cs' h1=>?_⟩
  obtain ⟨cs,h2,h3⟩:=(he k h.1).1 _ _ h1
  rw [h3]
  exact h.2 _ _ h2
 | ls k g=>
  refine ⟨by have:=h.1;omega,fun e g' ss xs' h1=>?_⟩
  obtain ⟨g0,xs,h2,h3,h4⟩:=(he k h.1).2 _ _ _ _ h1
  obtain ⟨h5,h6⟩:=h.2 _ _ _ _ h2
  refine ⟨by omega,fun e=>?_⟩
  obtain ⟨h7,h8⟩:=h4 (by omega)
  rw [h6 (by omega),h7,h8]
theorem CV.ev {n n':Nat} {θ θ':Nat->Loc} {O O':Nat->LObj} (he:Ev n θ O θ' O') (hn:n<=n') {m:MV} {u:Value} (h:CV n θ O m u):CV n' θ' O' m u:=by
 cases m with
 | v x=>exact h
 | bx k o=>exact CVc.ev (m:=.bx k o) he hn h
 | ls k g=>exact CVc.ev (m:=.ls k g) he hn h
 | ep k g i j=>
  refine ⟨by have:=h.1;omega,fun e g' ss xs' h1=>?_⟩
  obtain ⟨g0,xs,h2,h3,h4⟩:=(he k h.1).2 _ _ _ _ h1
  obtain ⟨h5,h6⟩:=h.2 _ _ _ _ h2
  refine ⟨by omega,fun e=>?_⟩
  obtain ⟨h7,h8⟩:=h4 (by omega)
  obtain ⟨h9,h10,h11⟩:=h6 (by omega)
  exact ⟨by omega,by rw [h8];exact h10,by rw [h8];exact h11⟩
 | agg cs=>
  obtain ⟨vs,h1,h2⟩:=h
  exact ⟨vs,h1,h2.imp fun _ _ x=>x.ev he hn⟩
theorem G1.ev {n n':Nat} {θ θ':Nat->Loc} {O O':Nat->LObj} (he:Ev n θ O θ' O') (hn:n<=n') {σc:Hp} {k:Nat} {o:LObj} (hk:θ' k=θ k) (h:G1 n θ O σc k o):G1 n' θ' O' σc k o:=by
 cases o with
 | box e cs=>
  obtain ⟨vs,h1,h2⟩:=h
  exact ⟨vs,by rw [hk];exact h1,h2.imp fun _ _ x=>x.ev he hn⟩
 | lst e g ss xs=>
  unfold G1
  rw [hk]
  exact h
 | gone=>trivial
 | lk=>trivial
theorem G1.heap {n:Nat} {θ:Nat->Loc} {O:Nat->LObj} {σc sc':Hp} {k:Nat} {o:LObj} (hk:∀ b,blk θ k o=some b->sc' b=σc b) (h:G1 n θ O σc k o):G1 n θ O sc' k o:=by
 cases o with
 | box e cs=>
  obtain ⟨vs,h1,h2⟩:=h
  exact ⟨vs,by rw [hk _ rfl];exact h1,h2⟩
 | lst e g ss xs=>
  refine ⟨h.1,?_⟩
  have h2:=h.2
  cases hn:(θ k).nil with
  | true=>rw [hn] at h2;exact h2
  | false=>
   rw [hn] at h2
   obtain ⟨cells,h3,h4⟩:=h2
   exact ⟨cells,by rw [hk _ (by show (match (θ k).nil with | true=>none | false=>some (θ k).b)=_;rw [hn])];exact h3,h4⟩
 | gone=>trivial
 | lk=>trivial
theorem G1.at {n:Nat} {θ:Nat->Loc} {O:Nat->LObj} {σc:Hp} {k:Nat} {o:LObj} (h:G1 n θ O σc k o) {b:Nat} (hk:blk θ k o=some b):∃ x,σc b=some x:=by
 cases o with
 | box t cs=>
  obtain ⟨vs,h2,_⟩:=h
  simp only [blk,Option.some.injEq] at hk
  subst hk
  exact ⟨_,h2⟩
 | lst t g ss xs=>
  simp only [blk] at hk
  have h2:=h.2
  cases hn:(θ k).nil with
  | true=>rw [hn] at hk;cases hk
  | false=>
   rw [hn] at h2 hk
   obtain ⟨cells,h3,_⟩:=h2
   simp only [Option.some.injEq] at hk
   subst hk
   exact ⟨_,h3⟩
 | gone=>cases hk
 | lk=>cases hk
structure HR (n:Nat) (θ:Nat->Loc) (O:Nat->LObj) (σ F σc:Hp):Prop where
 sub:Hp.Sub σ σc
 fsub:Hp.Sub F σc
 dis:∀ b x,F b=some x->σ b=none
 real:∀ k,G1 n θ O σc k (O k)
 sep:∀ k b,blk θ k (O k)=some b->σ b=none/\F b=none
 inj:∀ k k' b,blk θ k (O k)=some b->blk θ k' (O k')=some b->k=k'
 lt:∀ k,n<=k->O k=.gone
theorem HR.frm {n:Nat} {θ:Nat->Loc} {O:Nat->LObj} {σ F σc σ' sc':Hp} (h:HR n θ O σ F σc) (hf:Frm σ σc σ' sc'):HR n θ O σ' F sc':=by
 have hb:∀ {k b},blk θ k (O k)=some b->sc' b=σc b/\σ' b=none:=fun {k b} hk=>by
  obtain ⟨x,hx⟩:=(h.real k).at hk
  have:=hf.2 _ _ (h.sep _ _ hk).1 hx
  exact ⟨by rw [this.1,hx],this.2⟩
 exact ⟨hf.1,fun b x e=>(hf.2 b x (h.dis b x e) (h.fsub b x e)).1,fun b x e=>(hf.2 b x (h.dis b x e) (h.fsub b x e)).2,fun k=>(h.real k).heap fun b hk=>(hb hk).1,fun k b hk=>⟨(hb hk).2,(h.sep k b hk).2⟩,h.inj,h.lt⟩
theorem HR.turn {n n':Nat} {θ θ':Nat->Loc} {O O':Nat->LObj} {σ σ' F σc sc':Hp} (h:HR n θ O σ F σc) (k:Nat) (hn:n<=n') (hk:k<n') (ho:∀ i,i≠k->O' i=O i/\θ' i=θ i)
  (hev:k<n->(∀ e cs',O' k=.box e cs'->∃ cs,O k=.box e cs/\(θ' k).b=(θ k).b)/\(∀ e g' ss xs',O' k=.lst e g' ss xs'->∃ g xs,O k=.lst e g ss xs/\g<=g'/\(g=g'->xs.length=xs'.length/\θ' k=θ k)))
  (hs:Hp.Sub σ' sc') (hF:∀ b x,F b=some x->sc' b=σc b/\σ' b=none) (hi:∀ i,i≠k->∀ b,blk θ i (O i)=some b->sc' b=σc b/\σ' b=none)
  (hr:Ev n θ O θ' O'->G1 n' θ' O' sc' k (O' k)) (hb:∀ b,blk θ' k (O' k)=some b->σ' b=none/\F b=none/\∀ i,i≠k->blk θ i (O i)≠some b):
  HR n' θ' O' σ' F sc'/\Ev n θ O θ' O':=by
 have he:Ev n θ O θ' O':=fun i hin=>by
  by_cases e:i=k
  ·subst e;exact hev hin
  ·obtain ⟨h1,h2⟩:=ho i e
   rw [h1,h2]
   exact ⟨fun _ _ h=>⟨_,h,rfl⟩,fun _ _ _ _ h=>⟨_,_,h,Nat.le_refl _,fun _=>⟨rfl,rfl⟩⟩⟩
 have hbl:∀ i,i≠k->blk θ' i (O' i)=blk θ i (O i):=fun i e=>by
  obtain ⟨h1,h2⟩:=ho i e
  rw [h1]
  unfold blk
  rw [h2]
 refine ⟨⟨hs,fun b x e=>by rw [(hF b x e).1];exact h.fsub b x e,fun b x e=>(hF b x e).2,fun i=>?_,fun i b e=>?_,fun i j b e1 e2=>?_,fun i hi=>?_⟩,he⟩
 ·by_cases e:i=k
  ·subst e;exact hr he
  ·rw [(ho i e).1]
   exact ((h.real i).heap fun b hb'=>(hi i e b hb').1).ev he hn (ho i e).2
 ·by_cases e':i=k
  ·subst e';exact ⟨(hb b e).1,(hb b e).2.1⟩
  ·rw [hbl i e'] at e
   exact ⟨(hi i e' b e).2,(h.sep i b e).2⟩
 ·by_cases e3:i=k
  ·by_cases e4:j=k
   ·rw [e3,e4]
   ·subst e3
    rw [hbl j e4] at e2
    exact absurd e2 ((hb b e1).2.2 j e4)
  ·by_cases e4:j=k
   ·subst e4
    rw [hbl i e3] at e1
    exact absurd e1 ((hb b e2).2.2 i e3)
   ·rw [hbl i e3] at e1
    rw [hbl j e4] at e2
    exact h.inj i j b e1 e2
 ·rw [(ho i (by omega)).1]
  exact h.lt i (by omega)
def upd {α:Type} (O:Nat->α) (k:Nat) (o:α):Nat->α:=fun i=>if i=k then o else O i
theorem Au {α:Type} (O:Nat->α) (k:Nat) (o:α):upd O k o k=o:=if_pos rfl
theorem DK {α:Type} (O:Nat->α) {k i:Nat} (o:α) (h:i≠k):upd O k o i=O i:=if_neg h
theorem HR.fresh {n:Nat} {θ:Nat->Loc} {O:Nat->LObj} {σ F σc:Hp} (h:HR n θ O σ F σc) {b:Nat} (hb:σc b=none):σ b=none/\F b=none/\∀ k,blk θ k (O k)≠some b:=by
 refine ⟨?_,?_,fun k e=>?_⟩
 ·cases e:σ b with
  | none=>rfl
  | some x=>have:=h.sub _ _ e;rw [hb] at this;cases this
 ·cases e:F b with
  | none=>rfl
  | some x=>have:=h.fsub _ _ e;rw [hb] at this;cases this
 ·obtain ⟨x,hx⟩:=(h.real k).at e
  rw [hb] at hx
  cases hx
theorem Hp.Sub.ins_r {σ σc:Hp} (h:Hp.Sub σ σc) {b:Nat} (hb:σ b=none) (o:Obj):Hp.Sub σ (σc.ins b o):=fun k x e=>by
 unfold Hp.ins
 rw [if_neg (fun ek=>by rw [ek,hb] at e;cases e)]
 exact h _ _ e
theorem Hp.ins_ne {σ:Hp} {b k:Nat} (o:Obj) (h:k≠b):σ.ins b o k=σ k:=if_neg h
theorem Hp.ins_same (σ:Hp) (b:Nat) (o:Obj):σ.ins b o b=some (o,true):=if_pos rfl
theorem HR.push {n:Nat} {θ:Nat->Loc} {O:Nat->LObj} {σ F σc:Hp} (h:HR n θ O σ F σc) {b:Nat} (hb:σc b=none) (ob:Obj) (l:Loc) (o:LObj)
  (hl:∀ b',blk (upd θ n l) n o=some b'->b'=b) (hr:Ev n θ O (upd θ n l) (upd O n o)->G1 (n+1) (upd θ n l) (upd O n o) (σc.ins b ob) n o):
  HR (n+1) (upd θ n l) (upd O n o) σ F (σc.ins b ob)/\Ev n θ O (upd θ n l) (upd O n o):=by
 obtain ⟨h1,h2,h3⟩:=h.fresh hb
 refine h.turn n (Nat.le_succ _) (Nat.lt_succ_self _) (fun i hi=>⟨DK _ _ hi,DK _ _ hi⟩) (fun e=>absurd e (Nat.lt_irrefl _)) (h.sub.ins_r h1 _) (fun c x e=>?_) (fun i hi c e=>?_) (by rw [Au];exact hr) (fun c e=>?_)
 ·exact ⟨Hp.ins_ne _ (fun ec=>by rw [ec,h2] at e;cases e),h.dis _ _ e⟩
 ·exact ⟨Hp.ins_ne _ (fun ec=>h3 i (by rw [← ec];exact e)),(h.sep _ _ e).1⟩
 ·rw [Au] at e
  rw [hl c e]
  exact ⟨h1,h2,fun i _=>h3 i⟩
theorem HR.push_nil {n:Nat} {θ:Nat->Loc} {O:Nat->LObj} {σ F σc:Hp} (h:HR n θ O σ F σc) (e:TypeId) (ss:List Sh):
  HR (n+1) (upd θ n ⟨true,0,0,0⟩) (upd O n (.lst e 0 ss [])) σ F σc/\Ev n θ O (upd θ n ⟨true,0,0,0⟩) (upd O n (.lst e 0 ss [])):=by
 refine h.turn n (Nat.le_succ _) (Nat.lt_succ_self _) (fun i hi=>⟨DK _ _ hi,DK _ _ hi⟩) (fun e=>absurd e (Nat.lt_irrefl _)) h.sub (fun c x e=>⟨rfl,h.dis _ _ e⟩) (fun i hi c e=>⟨rfl,(h.sep _ _ e).1⟩) (fun _=>?_) (fun c e=>?_)
 ·rw [Au]
  refine ⟨Nat.zero_le _,?_⟩
  rw [Au]
 ·rw [Au] at e
  unfold blk at e
  rw [Au] at e
  cases e
theorem HR.drop {n:Nat} {θ:Nat->Loc} {O:Nat->LObj} {σ F σc:Hp} (h:HR n θ O σ F σc) (k:Nat) (hk:k<n):HR n θ (upd O k .gone) σ F σc/\Ev n θ O θ (upd O k .gone):=by
 refine h.turn k (Nat.le_refl _) hk (fun i hi=>⟨DK _ _ hi,rfl⟩) (fun _=>?_) h.sub (fun c x e=>⟨rfl,h.dis _ _ e⟩) (fun i hi c e=>⟨rfl,(h.sep _ _ e).1⟩) (fun _=>by rw [Au];trivial) (fun c e=>by rw [Au] at e;cases e)
 rw [Au]
 exact ⟨(fun _ _ e=>by cases e),(fun _ _ _ _ e=>by cases e)⟩
theorem HR.own {n:Nat} {θ:Nat->Loc} {O:Nat->LObj} {σ F σc:Hp} (h:HR n θ O σ F σc) {k:Nat} {b:Nat} (hk:blk θ k (O k)=some b):σ b=none/\F b=none/\∀ i,i≠k->blk θ i (O i)≠some b:=
 ⟨(h.sep _ _ hk).1,(h.sep _ _ hk).2,fun _ hi e=>hi (h.inj _ _ _ e hk)⟩
theorem Hp.put_ne {σ:Hp} {a:Addr} {v:Value} {k:Nat} (h:k≠a.block):σ.put a v k=σ k:=if_neg h
theorem Hp.put_same {σ:Hp} {b off:Nat} {v:Value} {c:Array Value} {e:TypeId} {f:Nat×Nat} {rw:Bool} (h:σ b=some (.cells c e f,rw)):σ.put ⟨b,off,none⟩ v b=some (.cells (c.setIfInBounds off v) e f,rw):=by
 unfold Hp.put
 rw [if_pos rfl,h]
theorem HR.write {n:Nat} {θ θ':Nat->Loc} {O:Nat->LObj} {σ F σc sc':Hp} (h:HR n θ O σ F σc) {k:Nat} (hk:k<n) {b:Nat} (hb:blk θ k (O k)=some b) (o:LObj) (hb':∀ b',blk θ' k o=some b'->b'=b) (hθ:∀ i,i≠k->θ' i=θ i)
  (hev:(∀ e cs',o=.box e cs'->∃ cs,O k=.box e cs/\(θ' k).b=(θ k).b)/\(∀ e g' ss xs',o=.lst e g' ss xs'->∃ g xs,O k=.lst e g ss xs/\g<=g'/\(g=g'->xs.length=xs'.length/\θ' k=θ k)))
  (hc:∀ c,c≠b->sc' c=σc c) (hr:Ev n θ O θ' (upd O k o)->G1 n θ' (upd O k o) sc' k o):HR n θ' (upd O k o) σ F sc'/\Ev n θ O θ' (upd O k o):=by
 obtain ⟨h1,h2,h3⟩:=h.own hb
 refine h.turn k (Nat.le_refl _) hk (fun i hi=>⟨DK _ _ hi,hθ i hi⟩) (fun _=>by rw [Au];exact hev) (fun c x e=>?_) (fun c x e=>?_) (fun i hi c e=>?_) (by rw [Au];exact hr) (fun c e=>?_)
 ·rw [hc c (fun ec=>by rw [ec,h1] at e;cases e)]
  exact h.sub _ _ e
 ·exact ⟨hc c (fun ec=>by rw [ec,h2] at e;cases e),h.dis _ _ e⟩
 ·exact ⟨hc c (fun ec=>h3 i hi (by rw [← ec];exact e)),(h.sep _ _ e).1⟩
 ·rw [Au] at e
  rw [hb' c e]
  exact ⟨h1,h2,h3⟩
theorem HR.give {n:Nat} {θ:Nat->Loc} {O:Nat->LObj} {σ F σc:Hp} (h:HR n θ O σ F σc) {k:Nat} (hk:k<n) {b:Nat} (hb:blk θ k (O k)=some b) {x:Obj} (hx:σc b=some (x,true)):
  σ b=none/\HR n θ (upd O k .gone) (σ.ins b x) F σc/\Ev n θ O θ (upd O k .gone):=by
 obtain ⟨h1,h2,h3⟩:=h.own hb
 refine ⟨h1,h.turn k (Nat.le_refl _) hk (fun i hi=>⟨DK _ _ hi,rfl⟩) (fun _=>?_) (fun c y e=>?_) (fun c y e=>?_) (fun i hi c e=>?_) (fun _=>by rw [Au];trivial) (fun c e=>by rw [Au] at e;cases e)⟩
 ·rw [Au]
  exact ⟨(fun _ _ e=>by cases e),(fun _ _ _ _ e=>by cases e)⟩
 ·unfold Hp.ins at e
  split at e<;>rename_i ec
  ·rw [ec,hx,← e]
  ·exact h.sub _ _ e
 ·have:c≠b:=fun ec=>by rw [ec,h2] at e;cases e
  exact ⟨rfl,by rw [Hp.ins_ne _ this];exact h.dis _ _ e⟩
 ·have:c≠b:=fun ec=>h3 i hi (by rw [← ec];exact e)
  exact ⟨rfl,by rw [Hp.ins_ne _ this];exact (h.sep _ _ e).1⟩
theorem HR.take {n:Nat} {θ:Nat->Loc} {O:Nat->LObj} {σ F σc:Hp} {b:Nat} {x:Obj} (h:HR n θ O (σ.ins b x) F σc) (hb:σ b=none) (l:Loc) (o:LObj) (hl:∀ b',blk (upd θ n l) n o=some b'->b'=b)
  (hr:σc b=some (x,true)->Ev n θ O (upd θ n l) (upd O n o)->G1 (n+1) (upd θ n l) (upd O n o) σc n o):
  HR (n+1) (upd θ n l) (upd O n o) σ F σc/\Ev n θ O (upd θ n l) (upd O n o):=by
 have hsub:Hp.Sub σ (σ.ins b x):=Hp.Sub.ins x hb
 have hx:=h.sub b _ (Hp.ins_same σ b x)
 have non:∀ c,σ.ins b x c=none->c≠b/\σ c=none:=fun c e=>by
  have:c≠b:=fun ec=>by rw [ec,Hp.ins_same] at e;cases e
  exact ⟨this,by rw [Hp.ins_ne _ this] at e;exact e⟩
 refine h.turn n (Nat.le_succ _) (Nat.lt_succ_self _) (fun i hi=>⟨DK _ _ hi,DK _ _ hi⟩) (fun e=>absurd e (Nat.lt_irrefl _)) (hsub.trans h.sub) (fun c y e=>⟨rfl,(non c (h.dis _ _ e)).2⟩) (fun i hi c e=>⟨rfl,(non c (h.sep _ _ e).1).2⟩) (fun e=>by rw [Au];exact hr hx e) (fun c e=>?_)
 rw [Au] at e
 rw [hl c e]
 refine ⟨hb,?_,fun i _ ei=>(non b (h.sep _ _ ei).1).1 rfl⟩
 cases eF:F b with
 | none=>rfl
 | some y=>exact absurd rfl (non b (h.dis _ _ eF)).1
inductive MFr where
 | base (g:Nat->Value)
 | cons (k:Nat) (v:MV) (fr:MFr)
def B8:MFr->Nat->MV
 | .base g,t=>.v (g t)
 | .cons k v fr,t=>match Nat.beq k t with
  | true=>v
  | false=>B8 fr t
def mapM (f:MV->MV):MFr->MFr
 | .base g=>.base g
 | .cons k v fr=>.cons k (f v) (mapM f fr)
def Aan (fr:MFr) (d:Option Tmp) (v:MV):MFr:=match d with
 | some d=>.cons d v fr
 | none=>fr
def mev (fr:MFr):Operand->MV
 | .tmp t=>B8 fr t
 | .const v=>.v v
 | .global g=>.v (.pointer (some ⟨g,0,none⟩))
 | .func f=>.v (.func (.func f) #[] #[])
def cvl:MV->Value
 | .v x=>x
 | _=>undef
def isV:MV->Bool
 | .v _=>true
 | _=>false
def AI:List LObj->Nat->LObj
 | [],_=>.gone
 | o::l,k=>match k with
  | 0=>o
  | k+1=>AI l k
def BJ:List LObj->Nat->LObj->List LObj
 | [],_,_=>[]
 | x::l,k,o=>match k with
  | 0=>o::l
  | k+1=>x::BJ l k o
def obj (Γ Λ:List LObj) (k:Nat):LObj:=match AI Λ k with
 | .lk=>AI Γ k
 | o=>o
def toMV:MC->MV
 | .v x=>.v x
 | .bx k o=>.bx k o
 | .ls k g=>.ls k g
def VQ:List MC->Option (List Value)
 | []=>some []
 | .v x::cs=>match VQ cs with
  | some vs=>some (x::vs)
  | none=>none
 | _::_=>none
def mkAgg (cs:List MC):MV:=match VQ cs with
 | some vs=>.v (.agg ⟨vs⟩)
 | none=>.agg cs
theorem EB:∀ {l:List LObj} {k:Nat},l.length<=k->AI l k=.gone
 | [],_,_=>rfl
 | _::l,0,h=>by simp at h
 | _::l,k+1,h=>EB (l:=l) (by simpa using h)
theorem Bd:∀ (l:List LObj) (k:Nat) (o:LObj),(BJ l k o).length=l.length
 | [],_,_=>rfl
 | _::l,0,_=>rfl
 | _::l,k+1,o=>by simp [BJ,Bd l k o]
theorem D4:∀ {l:List LObj} {k:Nat} (o:LObj) (i:Nat),k<l.length->AI (BJ l k o) i=if i=k then o else AI l i
 | [],_,_,_,h=>by simp at h
 | _::l,0,o,i,h=>by cases i<;>simp [BJ,AI]
 | x::l,k+1,o,i,h=>by
  cases i with
  | zero=>simp [BJ,AI]
  | succ i=>
   simp only [BJ,AI]
   rw [D4 (l:=l) o i (by simpa using h)]
   simp
theorem Dz {l:List LObj} {k:Nat} (h:AI l k≠.gone):k<l.length:=by
 rcases Nat.lt_or_ge k l.length with h1 | h1
 ·exact h1
 ·exact absurd (EB h1) h
theorem D1 (l l':List LObj) (k:Nat):AI (l++l') k=if k<l.length then AI l k else AI l' (k-l.length):=by
 induction l generalizing k with
 | nil=>simp
 | cons x l ih=>
  cases k with
  | zero=>simp [AI]
  | succ k=>
   simp only [List.cons_append,AI,ih,List.length_cons]
   by_cases h:k<l.length
   ·simp [h]
   ·rw [if_neg h,if_neg (by omega)]
    congr 1
    omega
theorem CQ {Γ Λ:List LObj} {k:Nat} {o:LObj} (hk:k<Λ.length) (ho:o≠.lk):obj Γ (BJ Λ k o)=upd (obj Γ Λ) k o:=by
 funext i
 unfold obj upd
 rw [D4 _ _ hk]
 by_cases h:i=k
 ·rw [if_pos h,if_pos h]
  cases o<;>first | rfl | exact absurd rfl ho
 ·rw [if_neg h,if_neg h]
theorem BD {Γ Λ:List LObj} {o:LObj} (ho:o≠.lk):obj Γ (Λ++[o])=upd (obj Γ Λ) Λ.length o:=by
 funext i
 unfold obj upd
 rw [D1]
 by_cases h:i=Λ.length
 ·subst h
  rw [if_neg (Nat.lt_irrefl _),if_pos rfl,Nat.sub_self]
  cases o<;>first | rfl | exact absurd rfl ho
 ·rw [if_neg h]
  by_cases h1:i<Λ.length
  ·rw [if_pos h1]
  ·have e1:AI Λ i=.gone:=EB (by omega)
   have e2:AI [o] (i-Λ.length)=.gone:=EB (by simp;omega)
   rw [if_neg h1,e2]
   simp only [e1]
theorem BY {Γ Λ:List LObj} {k:Nat} {o:LObj} (h:AI Λ k=o) (ho:o≠.lk):obj Γ Λ k=o:=by
 unfold obj
 rw [h]
 cases o<;>first | rfl | exact absurd rfl ho
theorem Qu:∀ {cs:List MC} {vs:List Value},VQ cs=some vs->cs=vs.map .v
 | [],vs,h=>by cases h;rfl
 | .v x::cs,vs,h=>by
  simp only [VQ] at h
  split at h
  ·rename_i us hu
   cases h
   rw [Qu hu]
   rfl
  ·cases h
 | .bx ..::_,_,h=>by cases h
 | .ls ..::_,_,h=>by cases h
theorem RM {n:Nat} {θ:Nat->Loc} {O:Nat->LObj}:∀ {vs us:List Value},Bq (CVc n θ O) (vs.map .v) us->us=vs
 | [],_,h=>by cases h;rfl
 | v::vs,_,h=>by
  cases h with
  | cons h1 h2=>rw [RM h2,(h1:_=_)]
theorem Lk {n:Nat} {θ:Nat->Loc} {O:Nat->LObj}:∀ (vs:List Value),Bq (CVc n θ O) (vs.map .v) vs
 | []=>.nil
 | _::vs=>.cons rfl (Lk vs)
theorem CV.toMV {n:Nat} {θ:Nat->Loc} {O:Nat->LObj} {m:MC} {u:Value} (h:CVc n θ O m u):CV n θ O (toMV m) u:=by cases m<;>exact h
theorem CV.mkAgg {n:Nat} {θ:Nat->Loc} {O:Nat->LObj} {cs:List MC} {us:List Value} (h:Bq (CVc n θ O) cs us):CV n θ O (mkAgg cs) (.agg us.toArray):=by
 unfold Go.Proofs.YtoelhdjloaknbaaGreat.mkAgg
 split
 ·rename_i vs hv
  rw [Qu hv] at h
  rw [RM h]
  rfl
 ·exact ⟨us,rfl,h⟩
def UB (k g:Nat) (A:aA) (n c:Nat):MC->MC
 | .ls k' g'=>match Nat.beq k k',Nat.beq g g' with
  | true,true=>.v (.slice A n c)
  | _,_=>.ls k' g'
 | m=>m
def Wi (k g:Nat) (A:aA) (n c:Nat):MV->MV
 | .ls k' g'=>match Nat.beq k k',Nat.beq g g' with
  | true,true=>.v (.slice A n c)
  | _,_=>.ls k' g'
 | .agg cs=>mkAgg (cs.map (UB k g A n c))
 | m=>m
def YT (k g b off w n c:Nat):MV->MV
 | .ep k' g' i j=>match Nat.beq k k',Nat.beq g g' with
  | true,true=>.v (.pointer (some ⟨b,off+(KU i w+j),none⟩))
  | _,_=>.ep k' g' i j
 | m=>Wi k g (some ⟨b,off,none⟩) n c m
def sbC (k b:Nat):MC->MC
 | .bx k' o=>match Nat.beq k k' with
  | true=>.v (.pointer (some ⟨b,o,none⟩))
  | false=>.bx k' o
 | m=>m
def sbV (k b:Nat):MV->MV
 | .bx k' o=>match Nat.beq k k' with
  | true=>.v (.pointer (some ⟨b,o,none⟩))
  | false=>.bx k' o
 | .agg cs=>mkAgg (cs.map (sbC k b))
 | m=>m
def mapL (f:MC->MC):List LObj->List LObj
 | []=>[]
 | .box e cs::l=>.box e (cs.map f)::mapL f l
 | o::l=>o::mapL f l
def Sl (f:MC->MC):LObj->LObj
 | .box e cs=>.box e (cs.map f)
 | o=>o
theorem Bw (f:MC->MC):∀ l:List LObj,(mapL f l).length=l.length
 | []=>rfl
 | .box ..::l=>by simp [mapL,Bw f l]
 | .lst ..::l=>by simp [mapL,Bw f l]
 | .gone::l=>by simp [mapL,Bw f l]
 | .lk::l=>by simp [mapL,Bw f l]
theorem E3 (f:MC->MC):∀ (l:List LObj) (k:Nat),AI (mapL f l) k=Sl f (AI l k)
 | [],_=>rfl
 | .box ..::l,k=>by cases k<;>simp [mapL,AI,Sl,E3 f l]
 | .lst ..::l,k=>by cases k<;>simp [mapL,AI,Sl,E3 f l]
 | .gone::l,k=>by cases k<;>simp [mapL,AI,Sl,E3 f l]
 | .lk::l,k=>by cases k<;>simp [mapL,AI,Sl,E3 f l]
theorem RF (f:MV->MV) (hf:∀ x,f (.v x)=.v x):∀ (fr:MFr) (t:Nat),B8 (mapM f fr) t=f (B8 fr t)
 | .base g,t=>(hf _).symm
 | .cons k v fr,t=>by
  simp only [mapM,B8]
  split
  ·rfl
  ·exact RF f hf fr t
theorem HR.mapL {Γ Λ:List LObj} {θ:Nat->Loc} {σ F σc:Hp} (f:MC->MC) (h:HR Λ.length θ (obj Γ Λ) σ F σc) (hf:∀ m u,CVc Λ.length θ (obj Γ Λ) m u->CVc Λ.length θ (obj Γ Λ) (f m) u):
  HR (mapL f Λ).length θ (obj Γ (mapL f Λ)) σ F σc/\Ev Λ.length θ (obj Γ Λ) θ (obj Γ (Go.Proofs.YtoelhdjloaknbaaGreat.mapL f Λ)):=by
 have ho:∀ k,obj Γ (Go.Proofs.YtoelhdjloaknbaaGreat.mapL f Λ) k=obj Γ Λ k∨∃ e cs,obj Γ Λ k=.box e cs/\obj Γ (Go.Proofs.YtoelhdjloaknbaaGreat.mapL f Λ) k=.box e (cs.map f):=by
  intro k
  unfold obj
  rw [E3]
  cases AI Λ k with
  | box e cs=>exact .inr ⟨e,cs,rfl,rfl⟩
  | _=>exact .inl rfl
 have hb:∀ k,blk θ k (obj Γ (Go.Proofs.YtoelhdjloaknbaaGreat.mapL f Λ) k)=blk θ k (obj Γ Λ k):=fun k=>by
  rcases ho k with e | ⟨e,cs,h1,h2⟩
  ·rw [e]
  ·rw [h1,h2];rfl
 have he:Ev Λ.length θ (obj Γ Λ) θ (obj Γ (Go.Proofs.YtoelhdjloaknbaaGreat.mapL f Λ)):=fun k _=>by
  rcases ho k with e | ⟨e,cs,h1,h2⟩
  ·rw [e]
   exact ⟨fun _ _ h=>⟨_,h,rfl⟩,fun _ _ _ _ h=>⟨_,_,h,Nat.le_refl _,fun _=>⟨rfl,rfl⟩⟩⟩
  ·rw [h1,h2]
   exact ⟨fun e' cs' h=>by cases h;exact ⟨_,rfl,rfl⟩,fun _ _ _ _ h=>by cases h⟩
 refine ⟨⟨h.sub,h.fsub,h.dis,fun k=>?_,fun k b e=>h.sep k b (by rw [← hb];exact e),fun i j b e1 e2=>h.inj i j b (by rw [← hb];exact e1) (by rw [← hb];exact e2),fun k hk=>?_⟩,he⟩
 ·rw [Bw]
  rcases ho k with e | ⟨e,cs,h1,h2⟩
  ·rw [e]
   exact (h.real k).ev he (Nat.le_refl _) rfl
  ·have:=h.real k
   rw [h1] at this
   rw [h2]
   obtain ⟨vs,h3,h4⟩:=this
   refine ⟨vs,h3,?_⟩
   have:∀ {cs:List MC} {vs:List Value},Bq (CVc Λ.length θ (obj Γ Λ)) cs vs->Bq (CVc Λ.length θ (obj Γ (Go.Proofs.YtoelhdjloaknbaaGreat.mapL f Λ))) (cs.map f) vs:=by
    intro cs vs h
    induction h with
    | nil=>exact .nil
    | cons x _ ih=>exact .cons ((hf _ _ x).ev he (Nat.le_refl _)) ih
   exact this h4
 ·rw [Bw] at hk
  rcases ho k with e | ⟨e,cs,h1,h2⟩
  ·rw [e];exact h.lt k hk
  ·have:=h.lt k hk
   rw [h1] at this
   cases this
inductive Fst where
 | done (vs:List Value)
 | bx (k:Nat)
 | ls (k g:Nat)
 | ep (k g:Nat)
def Gq:List MC->Fst
 | []=>.done []
 | .v x::cs=>match Gq cs with
  | .done vs=>.done (x::vs)
  | o=>o
 | .bx k _::_=>.bx k
 | .ls k g::_=>.ls k g
def Jp:List MV->Fst
 | []=>.done []
 | .v x::l=>match Jp l with
  | .done vs=>.done (x::vs)
  | o=>o
 | .bx k _::_=>.bx k
 | .ls k g::_=>.ls k g
 | .ep k g _ _::_=>.ep k g
 | .agg cs::l=>match Gq cs with
  | .done vs=>match Jp l with
   | .done us=>.done (.agg ⟨vs⟩::us)
   | o=>o
  | o=>o
def Fa:Nat->List MV->MFr->List LObj->Hp->(List Value->MFr->List LObj->Hp->Prop)->Prop
 | 0,_,_,_,_,_=>False
 | fuel+1,ex,fr,Λ,σ,K=>match Jp ex with
  | .done vs=>K vs fr Λ σ
  | .ls k g=>match AI Λ k with
   | .lst e g' ss xs=>match Nat.beq g g' with
    | true=>exl e ss xs σ fun A n c σ'=>Fa fuel (ex.map (Wi k g A n c)) (mapM (Wi k g A n c) fr) (mapL (UB k g A n c) (BJ Λ k .gone)) σ' K
    | false=>False
   | _=>False
  | .ep k g=>match AI Λ k with
   | .lst e g' ss xs=>match Nat.beq g g' with
    | true=>∀ b off n c σ',Ak e ss σ (some ⟨b,off,none⟩) n c xs σ'->Fa fuel (ex.map (YT k g b off ss.length n c)) (mapM (YT k g b off ss.length n c) fr) (mapL (UB k g (some ⟨b,off,none⟩) n c) (BJ Λ k .gone)) σ' K
    | false=>False
   | _=>False
  | .bx k=>match AI Λ k with
   | .box e cs=>match Gq cs with
    | .done vs=>∀ b,σ b=none->Fa fuel (ex.map (sbV k b)) (mapM (sbV k b) fr) (mapL (sbC k b) (BJ Λ k .gone)) (σ.ins b (.cells ⟨vs⟩ e)) K
    | .bx k'=>Fa fuel (.bx k' 0::ex) fr Λ σ fun vs=>K vs.tail
    | .ls k' g'=>Fa fuel (.ls k' g'::ex) fr Λ σ fun vs=>K vs.tail
    | .ep _ _=>False
   | _=>False
section
variable {Γ Λ:List LObj} {θ:Nat->Loc} {σ F σc:Hp}
theorem Kl {n:Nat} {O:Nat->LObj}:∀ {cs:List MC} {vs us:List Value},Gq cs=.done vs->Bq (CVc n θ O) cs us->us=vs
 | [],vs,us,h,ha=>by cases h;cases ha;rfl
 | .v x::cs,vs,us,h,ha=>by
  cases ha with
  | cons h1 h2=>
   simp only [Gq] at h
   split at h
   ·rename_i ws hw
    cases h
    rw [Kl hw h2,(h1:_=_)]
   ·rename_i o hn
    rw [h] at hn
    exact absurd rfl (hn _)
 | .bx ..::_,_,_,h,_=>by cases h
 | .ls ..::_,_,_,h,_=>by cases h
theorem Kq {n:Nat} {O:Nat->LObj}:∀ {ex:List MV} {vs us:List Value},Jp ex=.done vs->Bq (CV n θ O) ex us->us=vs
 | [],vs,us,h,ha=>by cases h;cases ha;rfl
 | .v x::l,vs,us,h,ha=>by
  cases ha with
  | cons h1 h2=>
   simp only [Jp] at h
   split at h
   ·rename_i ws hw
    cases h
    rw [Kq hw h2,(h1:_=_)]
   ·rename_i o hn
    rw [h] at hn
    exact absurd rfl (hn _)
 | .agg cs::l,vs,us,h,ha=>by
  cases ha with
  | cons h1 h2=>
   obtain ⟨ws,rfl,h3⟩:=h1
   simp only [Jp] at h
   split at h
   ·rename_i v1 hv
    split at h
    ·rename_i u1 hu
     cases h
     rw [Kq hu h2,Kl hv h3]
    ·rename_i o hn
     rw [h] at hn
     exact absurd rfl (hn _)
   ·rename_i o hn
    rw [h] at hn
    exact absurd rfl (hn _)
 | .bx ..::_,_,_,h,_=>by cases h
 | .ls ..::_,_,_,h,_=>by cases h
 | .ep ..::_,_,_,h,_=>by cases h
theorem Ts {n:Nat} {O:Nat->LObj} {f:MV->MV} (hf:∀ m u,CV n θ O m u->CV n θ O (f m) u):∀ {ex:List MV} {us:List Value},Bq (CV n θ O) ex us->Bq (CV n θ O) (ex.map f) us
 | _,_,.nil=>.nil
 | _,_,.cons x y=>.cons (hf _ _ x) (Ts hf y)
theorem Sp {k g n c:Nat} {A:aA} {N:Nat} {O:Nat->LObj} (hu:∀ u,CVc N θ O (.ls k g) u->u=.slice A n c):∀ m u,CVc N θ O m u->CVc N θ O (UB k g A n c m) u:=by
 intro m u h
 cases m with
 | ls k' g'=>
  simp only [UB]
  split
  ·rename_i h1 h2
   obtain rfl:=Nat.eq_of_beq_eq_true h1
   obtain rfl:=Nat.eq_of_beq_eq_true h2
   exact hu u h
  ·exact h
 | _=>exact h
theorem OU {n:Nat} {O:Nat->LObj} {f:MC->MC} (hf:∀ m u,CVc n θ O m u->CVc n θ O (f m) u):∀ {ex:List MC} {us:List Value},Bq (CVc n θ O) ex us->Bq (CVc n θ O) (ex.map f) us
 | _,_,.nil=>.nil
 | _,_,.cons x y=>.cons (hf _ _ x) (OU hf y)
theorem Vu {k g n c:Nat} {A:aA} {N:Nat} {O:Nat->LObj} (hu:∀ u,CVc N θ O (.ls k g) u->u=.slice A n c):∀ m u,CV N θ O m u->CV N θ O (Wi k g A n c m) u:=by
 intro m u h
 cases m with
 | ls k' g'=>
  simp only [Wi]
  split
  ·rename_i h1 h2
   obtain rfl:=Nat.eq_of_beq_eq_true h1
   obtain rfl:=Nat.eq_of_beq_eq_true h2
   exact hu u h
  ·exact h
 | agg cs=>
  obtain ⟨vs,rfl,h2⟩:=h
  exact CV.mkAgg (OU (Sp hu) h2)
 | _=>exact h
theorem Y3 {k g b off w n c:Nat} {N:Nat} {O:Nat->LObj} (hu:∀ u,CVc N θ O (.ls k g) u->u=.slice (some ⟨b,off,none⟩) n c) (hp:∀ i j u,CV N θ O (.ep k g i j) u->u=.pointer (some ⟨b,off+(i*w+j),none⟩)):
  ∀ m u,CV N θ O m u->CV N θ O (YT k g b off w n c m) u:=by
 intro m u h
 cases m with
 | ep k' g' i j=>
  simp only [YT]
  split
  ·rename_i h1 h2
   obtain rfl:=Nat.eq_of_beq_eq_true h1
   obtain rfl:=Nat.eq_of_beq_eq_true h2
   rw [Ce]
   exact hp i j u h
  ·exact h
 | _=>exact Vu hu _ u h
theorem XW {k b:Nat} {N:Nat} {O:Nat->LObj} (hu:∀ o u,CVc N θ O (.bx k o) u->u=.pointer (some ⟨b,o,none⟩)):∀ m u,CVc N θ O m u->CVc N θ O (sbC k b m) u:=by
 intro m u h
 cases m with
 | bx k' o=>
  simp only [sbC]
  split
  ·rename_i h1
   obtain rfl:=Nat.eq_of_beq_eq_true h1
   exact hu o u h
  ·exact h
 | _=>exact h
theorem Z4 {k b:Nat} {N:Nat} {O:Nat->LObj} (hu:∀ o u,CVc N θ O (.bx k o) u->u=.pointer (some ⟨b,o,none⟩)):∀ m u,CV N θ O m u->CV N θ O (sbV k b m) u:=by
 intro m u h
 cases m with
 | bx k' o=>
  simp only [sbV]
  split
  ·rename_i h1
   obtain rfl:=Nat.eq_of_beq_eq_true h1
   exact hu o u h
  ·exact h
 | agg cs=>
  obtain ⟨vs,rfl,h2⟩:=h
  exact CV.mkAgg (OU (XW hu) h2)
 | _=>exact h
theorem OG (f:MC->MC):∀ (l:List LObj) (k:Nat) (o:LObj),mapL f (BJ l k o)=BJ (mapL f l) k (Sl f o)
 | [],_,_=>rfl
 | x::l,0,o=>by cases x<;>cases o<;>rfl
 | x::l,k+1,o=>by cases x<;>simp [BJ,mapL,OG f l k o]
structure Mv (Γ:List LObj) (θ:Nat->Loc) (Λ:List LObj) (θ':Nat->Loc) (Λ':List LObj):Prop where
 ev:Ev Λ.length θ (obj Γ Λ) θ' (obj Γ Λ')
 le:Λ.length<=Λ'.length
 th:∀ k,k<Λ.length->θ' k=θ k
 ls:∀ k e g ss xs,AI Λ k=.lst e g ss xs->AI Λ' k=.lst e g ss xs∨AI Λ' k=.gone
 gn:∀ k,k<Λ.length->AI Λ k=.gone->AI Λ' k=.gone
 lk:∀ k,AI Λ k=.lk->AI Λ' k=.lk
 kl:∀ k,AI Λ' k=.lk->AI Λ k=.lk
theorem Ev.refl (n:Nat) (θ:Nat->Loc) (O:Nat->LObj):Ev n θ O θ O:=fun _ _=>
 ⟨fun _ _ h=>⟨_,h,rfl⟩,fun _ _ _ _ h=>⟨_,_,h,Nat.le_refl _,fun _=>⟨rfl,rfl⟩⟩⟩
theorem Ev.trans {n n':Nat} {θ θ' θ'':Nat->Loc} {O O' O'':Nat->LObj} (h:Ev n θ O θ' O') (hn:n<=n') (k:Ev n' θ' O' θ'' O''):Ev n θ O θ'' O'':=fun i hi=>by
 refine ⟨fun e cs'' h1=>?_,fun e g'' ss xs'' h1=>?_⟩
 ·obtain ⟨cs',h2,h3⟩:=(k i (by omega)).1 _ _ h1
  obtain ⟨cs,h4,h5⟩:=(h i hi).1 _ _ h2
  exact ⟨cs,h4,by rw [h3,h5]⟩
 ·obtain ⟨g',xs',h2,h3,h4⟩:=(k i (by omega)).2 _ _ _ _ h1
  obtain ⟨g,xs,h5,h6,h7⟩:=(h i hi).2 _ _ _ _ h2
  refine ⟨g,xs,h5,by omega,fun e=>?_⟩
  obtain ⟨h8,h9⟩:=h7 (by omega)
  obtain ⟨h10,h11⟩:=h4 (by omega)
  exact ⟨by omega,by rw [h11,h9]⟩
theorem Mv.refl (Γ:List LObj) (θ:Nat->Loc) (Λ:List LObj):Mv Γ θ Λ θ Λ:=⟨Ev.refl _ _ _,Nat.le_refl _,fun _ _=>rfl,fun _ _ _ _ _ h=>.inl h,fun _ _ h=>h,fun _ h=>h,fun _ h=>h⟩
theorem Mv.trans {Γ Λ Λ' Λ'':List LObj} {θ θ' θ'':Nat->Loc} (h:Mv Γ θ Λ θ' Λ') (k:Mv Γ θ' Λ' θ'' Λ''):Mv Γ θ Λ θ'' Λ'':=by
 refine ⟨h.ev.trans h.le k.ev,Nat.le_trans h.le k.le,fun i hi=>by rw [k.th i (by have:=h.le;omega),h.th i hi],fun i e g ss xs hi=>?_,fun i hl hi=>k.gn i (by have:=h.le;omega) (h.gn i hl hi),fun i hi=>k.lk i (h.lk i hi),fun i hi=>h.kl i (k.kl i hi)⟩
 rcases h.ls i e g ss xs hi with h1 | h1
 ·exact k.ls i e g ss xs h1
 ·refine .inr (k.gn i ?_ h1)
  have:i<Λ.length:=Dz (by rw [hi];simp)
  have:=h.le
  omega
theorem Oz {fm:MV->MV} {fc:MC->MC} {k:Nat} {o:LObj} {σ':Hp} {ex:List MV} {us:List Value} {fr:MFr} {vals:Nat->Value} (hv:∀ x,fm (.v x)=.v x) (h:HR Λ.length θ (obj Γ Λ) σ F σc) (hfr:∀ t,CV Λ.length θ (obj Γ Λ) (B8 fr t) (vals t)) (hex:Bq (CV Λ.length θ (obj Γ Λ)) ex us)
  (hk:AI Λ k=o) (ho:o≠.gone) (ho':o≠.lk) (hm:∀ m u,CV Λ.length θ (obj Γ Λ) m u->CV Λ.length θ (obj Γ Λ) (fm m) u) (hc:∀ m u,CVc Λ.length θ (obj Γ Λ) m u->CVc Λ.length θ (obj Γ Λ) (fc m) u)
  (hg:∀ Λ',obj Γ Λ' k=Sl fc o->Λ'.length=Λ.length->HR Λ'.length θ (obj Γ Λ') σ F σc->HR Λ'.length θ (upd (obj Γ Λ') k .gone) σ' F σc/\Ev Λ'.length θ (obj Γ Λ') θ (upd (obj Γ Λ') k .gone)):
  HR (mapL fc (BJ Λ k .gone)).length θ (obj Γ (mapL fc (BJ Λ k .gone))) σ' F σc/\(∀ t,CV (mapL fc (BJ Λ k .gone)).length θ (obj Γ (mapL fc (BJ Λ k .gone))) (B8 (mapM fm fr) t) (vals t))/\Bq (CV (mapL fc (BJ Λ k .gone)).length θ (obj Γ (mapL fc (BJ Λ k .gone)))) (ex.map fm) us/\Mv Γ θ Λ θ (mapL fc (BJ Λ k .gone)):=by
 have hlt:k<Λ.length:=Dz (by rw [hk];exact ho)
 obtain ⟨h1,e1⟩:=h.mapL fc hc
 have hob:obj Γ (mapL fc Λ) k=Sl fc o:=by
  unfold obj
  rw [E3,hk]
  cases o<;>first | rfl | exact absurd rfl ho'
 obtain ⟨h2,e2⟩:=hg (mapL fc Λ) hob (Bw _ _) h1
 have e3:obj Γ (mapL fc (BJ Λ k .gone))=upd (obj Γ (mapL fc Λ)) k .gone:=by
  rw [OG]
  exact CQ (by rw [Bw];exact hlt) (by intro e;cases e)
 have e4:(mapL fc (BJ Λ k .gone)).length=(mapL fc Λ).length:=by rw [OG,Bd]
 have hl:Λ.length<=(mapL fc Λ).length:=by rw [Bw];exact Nat.le_refl _
 have hget:∀ i,AI (mapL fc (BJ Λ k .gone)) i=Sl fc (if i=k then .gone else AI Λ i):=fun i=>by rw [E3,D4 _ _ hlt]
 have hmv:Mv Γ θ Λ θ (mapL fc (BJ Λ k .gone)):=by
  refine ⟨by rw [e3];exact e1.trans hl e2,by rw [e4];exact hl,fun _ _=>rfl,fun i e g ss xs hi=>?_,fun i _ hi=>?_,fun i hi=>?_,fun i hi=>?_⟩
  ·rw [hget,hi]
   split
   ·exact .inr rfl
   ·exact .inl rfl
  ·rw [hget,hi]
   split<;>rfl
  ·rw [hget,hi,if_neg (fun e=>ho' (by rw [← hk,← e,hi]))]
   rfl
  ·rw [hget] at hi
   split at hi
   ·cases hi
   ·cases e:AI Λ i<;>rw [e] at hi<;>first | rfl | cases hi
 refine ⟨?_,?_,?_,hmv⟩
 all_goals rw [e3,e4]
 ·exact h2
 ·intro t
  rw [RF fm hv]
  exact ((hm _ _ (hfr t)).ev e1 hl).ev e2 (Nat.le_refl _)
 ·exact (Ts hm hex).imp fun _ _ x=>(x.ev e1 hl).ev e2 (Nat.le_refl _)
def gvH (θ:Nat->Loc) (k:Nat) (σ σc:Hp):Hp:=match (θ k).nil with
 | true=>σ
 | false=>match σc (θ k).b with
  | some (x,_)=>σ.ins (θ k).b x
  | none=>σ
theorem Lw {k g:Nat} {e:TypeId} {ss:List Sh} {xs:List (TyR ss)} (h:HR Λ.length θ (obj Γ Λ) σ F σc) (hk:obj Γ Λ k=.lst e g ss xs) (hlt:k<Λ.length):
  Ak e ss σ (θ k).addr xs.length (θ k).c xs (gvH θ k σ σc)/\HR Λ.length θ (upd (obj Γ Λ) k .gone) (gvH θ k σ σc) F σc/\Ev Λ.length θ (obj Γ Λ) θ (upd (obj Γ Λ) k .gone):=by
 have hr:=h.real k
 rw [hk] at hr
 unfold gvH
 cases hn:(θ k).nil with
 | true=>
  have h2:=hr.2
  rw [hn] at h2
  have h1:=hr.1
  have hx:xs=[]:=List.length_eq_zero_iff.1 (by omega)
  exact ⟨.inl ⟨by unfold Loc.addr;rw [hn],by rw [hx];rfl,h2,hx,rfl⟩,h.drop k hlt⟩
 | false=>
  have h2:=hr.2
  rw [hn] at h2
  obtain ⟨cells,h3,h4,h5⟩:=h2
  have hb:blk θ k (obj Γ Λ k)=some (θ k).b:=by
   rw [hk]
   show (match (θ k).nil with | true=>none | false=>some (θ k).b)=_
   rw [hn]
  obtain ⟨h6,h7,h8⟩:=h.give hlt hb h3
  simp only [h3]
  exact ⟨.inr ⟨(θ k).b,(θ k).off,cells,by unfold Loc.addr;rw [hn],rfl,hr.1,h6,rfl,h4,h5⟩,h7,h8⟩
theorem Ge {vals:Nat->Value}:∀ (fuel:Nat) (ex:List MV) (fr:MFr) (Λ:List LObj) (σ:Hp) (K:List Value->MFr->List LObj->Hp->Prop) (us:List Value),Fa fuel ex fr Λ σ K ->
  HR Λ.length θ (obj Γ Λ) σ F σc->(∀ t,CV Λ.length θ (obj Γ Λ) (B8 fr t) (vals t))->Bq (CV Λ.length θ (obj Γ Λ)) ex us ->
  ∃ fr' Λ' σ',HR Λ'.length θ (obj Γ Λ') σ' F σc/\(∀ t,CV Λ'.length θ (obj Γ Λ') (B8 fr' t) (vals t))/\K us fr' Λ' σ'/\Mv Γ θ Λ θ Λ'/\Λ'.length=Λ.length:=by
 intro fuel
 induction fuel with
 | zero=>intro ex fr Λ σ K us h;exact h.elim
 | succ fuel ih=>
  intro ex fr Λ σ K us h hr hfr hex
  simp only [Fa] at h
  split at h
  ·rename_i vs hd
   rw [Kq hd hex]
   exact ⟨fr,Λ,σ,hr,hfr,h,Mv.refl _ _ _,rfl⟩
  ·rename_i k g hd
   split at h<;>first | exact h.elim | skip
   rename_i e g' ss xs hk
   split at h<;>first | exact h.elim | skip
   rename_i hg
   obtain rfl:=Nat.eq_of_beq_eq_true hg
   have hlt:k<Λ.length:=Dz (by rw [hk];simp)
   have hob:=BY (Γ:=Γ) hk (by simp)
   have hu:∀ u,CVc Λ.length θ (obj Γ Λ) (.ls k g) u->u=.slice (θ k).addr xs.length (θ k).c:=fun u hu=>(hu.2 _ _ _ _ hob).2 rfl
   have ho:=(Lw hr hob hlt).1
   have hs:=Oz (fm:=Wi k g (θ k).addr xs.length (θ k).c) (fc:=UB k g (θ k).addr xs.length (θ k).c) (σ':=gvH θ k σ σc) (fun x=>rfl) hr hfr hex hk (by simp) (by simp) (Vu hu) (Sp hu)
    fun Λ' h1 h2 h3=>(Lw (k:=k) (g:=g) (e:=e) (ss:=ss) (xs:=xs) h3 h1 (by omega)).2
   obtain ⟨fr',Λ',σ',x1,x2,x3,x4,x5⟩:=ih _ _ _ _ _ _ (h _ _ _ _ ho) hs.1 hs.2.1 hs.2.2.1
   exact ⟨fr',Λ',σ',x1,x2,x3,hs.2.2.2.trans x4,by rw [x5,Bw,Bd]⟩
  ·rename_i k g hd
   split at h<;>first | exact h.elim | skip
   rename_i e g' ss xs hk
   split at h<;>first | exact h.elim | skip
   rename_i hg
   obtain rfl:=Nat.eq_of_beq_eq_true hg
   have hlt:k<Λ.length:=Dz (by rw [hk];simp)
   have hob:=BY (Γ:=Γ) hk (by simp)
   have hnil:(θ k).nil=false:=by
    have:∀ {ex:List MV} {us:List Value},Jp ex=.ep k g->Bq (CV Λ.length θ (obj Γ Λ)) ex us->∃ i j u,CV Λ.length θ (obj Γ Λ) (.ep k g i j) u:=by
     intro ex
     have hC:∀ cs:List MC,Gq cs≠.ep k g:=by
      intro cs
      induction cs with
      | nil=>intro e;cases e
      | cons m cs ih=>cases m with
       | v x=>
        intro e
        simp only [Gq] at e
        split at e
        ·cases e
        ·exact ih e
       | _=>intro e;cases e
     induction ex with
     | nil=>intro us e;cases e
     | cons m l ih=>
      intro us e ha
      cases ha with
      | cons h1 h2=>
       cases m with
       | v x=>
        simp only [Jp] at e
        split at e
        ·cases e
        ·exact ih e h2
       | agg cs=>
        simp only [Jp] at e
        split at e
        ·split at e
         ·cases e
         ·exact ih e h2
        ·exact absurd e (hC cs)
       | ep k' g' i j=>cases e;exact ⟨i,j,_,h1⟩
       | bx=>cases e
       | ls=>cases e
    obtain ⟨i,j,u,hu⟩:=this hd hex
    exact ((hu.2 _ _ _ _ hob).2 rfl).2.1
   have haddr:(θ k).addr=some ⟨(θ k).b,(θ k).off,none⟩:=by unfold Loc.addr;rw [hnil]
   have hu:∀ u,CVc Λ.length θ (obj Γ Λ) (.ls k g) u->u=.slice (some ⟨(θ k).b,(θ k).off,none⟩) xs.length (θ k).c:=fun u hu=>by
    rw [← haddr]
    exact (hu.2 _ _ _ _ hob).2 rfl
   have ho:=(Lw hr hob hlt).1
   rw [haddr] at ho
   have hs:=Oz (fm:=YT k g (θ k).b (θ k).off ss.length xs.length (θ k).c) (fc:=UB k g (some ⟨(θ k).b,(θ k).off,none⟩) xs.length (θ k).c) (σ':=gvH θ k σ σc) (fun x=>rfl) hr hfr hex hk (by simp) (by simp)
    (Y3 hu fun i j u hp=>((hp.2 _ _ _ _ hob).2 rfl).2.2) (Sp hu) fun Λ' h1 h2 h3=>(Lw (k:=k) (g:=g) (e:=e) (ss:=ss) (xs:=xs) h3 h1 (by omega)).2
   obtain ⟨fr',Λ',σ',x1,x2,x3,x4,x5⟩:=ih _ _ _ _ _ _ (h _ _ _ _ _ ho) hs.1 hs.2.1 hs.2.2.1
   exact ⟨fr',Λ',σ',x1,x2,x3,hs.2.2.2.trans x4,by rw [x5,Bw,Bd]⟩
  ·rename_i k hd
   split at h<;>first | exact h.elim | skip
   rename_i e cs hk
   have hlt:k<Λ.length:=Dz (by rw [hk];simp)
   have hob:=BY (Γ:=Γ) hk (by simp)
   have hreal:=hr.real k
   rw [hob] at hreal
   obtain ⟨us0,hb0,ha0⟩:=hreal
   split at h
   ·rename_i vs hc
    have hvs:=Kl hc ha0
    subst hvs
    have hu:∀ o u,CVc Λ.length θ (obj Γ Λ) (.bx k o) u->u=.pointer (some ⟨(θ k).b,o,none⟩):=fun o u hu=>hu.2 _ _ hob
    have hg:=hr.give (k:=k) (b:=(θ k).b) hlt (by rw [hob];rfl) hb0
    have hs:=Oz (fm:=sbV k (θ k).b) (fc:=sbC k (θ k).b) (σ':=σ.ins (θ k).b (.cells ⟨us0⟩ e)) (fun x=>rfl) hr hfr hex hk (by simp) (by simp) (Z4 hu) (XW hu)
     fun Λ' h1 h2 h3=>(h3.give (k:=k) (b:=(θ k).b) (by omega) (by rw [h1];rfl) hb0).2
    obtain ⟨fr',Λ',σ',x1,x2,x3,x4,x5⟩:=ih _ _ _ _ _ _ (h _ hg.1) hs.1 hs.2.1 hs.2.2.1
    exact ⟨fr',Λ',σ',x1,x2,x3,hs.2.2.2.trans x4,by rw [x5,Bw,Bd]⟩
   ·rename_i k' hc
    have:∃ u o,CV Λ.length θ (obj Γ Λ) (.bx k' o) u:=by
     have:∀ {cs:List MC} {us:List Value},Gq cs=.bx k'->Bq (CVc Λ.length θ (obj Γ Λ)) cs us->∃ u o,CVc Λ.length θ (obj Γ Λ) (.bx k' o) u:=by
      intro cs
      induction cs with
      | nil=>intro us e;cases e
      | cons m cs ih=>
       intro us e ha
       cases ha with
       | cons h1 h2=>cases m with
        | v x=>
         simp only [Gq] at e
         split at e
         ·cases e
         ·exact ih e h2
        | bx k'' o=>cases e;exact ⟨_,_,h1⟩
        | ls=>cases e
     obtain ⟨u,o,h⟩:=this hc ha0
     exact ⟨u,o,h⟩
    obtain ⟨u,o,hu⟩:=this
    have hu0:CV Λ.length θ (obj Γ Λ) (.bx k' 0) (.pointer (some ⟨(θ k').b,0,none⟩)):=⟨hu.1,fun _ _ _=>rfl⟩
    obtain ⟨fr',Λ',σ',h1,h2,h3,h4⟩:=ih _ _ _ _ _ _ h hr hfr (.cons hu0 hex)
    exact ⟨fr',Λ',σ',h1,h2,h3,h4⟩
   ·rename_i k' g' hc
    have:∃ u,CV Λ.length θ (obj Γ Λ) (.ls k' g') u:=by
     have:∀ {cs:List MC} {us:List Value},Gq cs=.ls k' g'->Bq (CVc Λ.length θ (obj Γ Λ)) cs us->∃ u,CVc Λ.length θ (obj Γ Λ) (.ls k' g') u:=by
      intro cs
      induction cs with
      | nil=>intro us e;cases e
      | cons m cs ih=>
       intro us e ha
       cases ha with
       | cons h1 h2=>cases m with
        | v x=>
         simp only [Gq] at e
         split at e
         ·cases e
         ·exact ih e h2
        | ls k'' o=>cases e;exact ⟨_,h1⟩
        | bx=>cases e
     obtain ⟨u,h⟩:=this hc ha0
     exact ⟨u,h⟩
    obtain ⟨u,hu⟩:=this
    obtain ⟨fr',Λ',σ',h1,h2,h3,h4⟩:=ih _ _ _ _ _ _ h hr hfr (.cons hu hex)
    exact ⟨fr',Λ',σ',h1,h2,h3,h4⟩
   ·exact h.elim
end
theorem Frm.put {σ σc:Hp} (hs:Hp.Sub σ σc) {a:Addr} (hw:σ.wr a) (v:Value):σc.wr a/\Frm σ σc (σ.put a v) (σc.put a v):=by
 obtain ⟨c,e,hb,hlt,hsp⟩:=hw
 refine ⟨⟨c,e,hs _ _ hb,hlt,hsp⟩,fun x y hy=>?_,fun x y h3 h4=>?_⟩
 ·unfold Hp.put at hy ⊢
  split at hy<;>rename_i hx
  ·rw [if_pos hx];subst hx;rw [hb] at hy;rw [hs _ _ hb];exact hy
  ·rw [if_neg hx];exact hs _ _ hy
 ·have:x≠a.block:=fun e=>by rw [e,hb] at h3;cases h3
  rw [Hp.put_ne this,Hp.put_ne this]
  exact ⟨h4,h3⟩
theorem Va {b off:Nat}:∀ {vs:List Value} {i:Nat} {σ σc:Hp} {K:Hp->Prop},Hp.Sub σ σc->stc σ b off i vs K->stc σc b off i vs fun sc'=>∃ σ',K σ'/\Frm σ σc σ' sc'
 | [],_,σ,_,_,hs,h=>⟨σ,h,Frm.refl hs⟩
 | v::vs,i,σ,σc,K,hs,h=>by
  obtain ⟨h1,h2,h3⟩:=DA.1 h
  obtain ⟨hw,hf⟩:=Frm.put hs h2 v
  exact DA.2 ⟨h1,hw,NM (fun _ ⟨σ',hk,hf'⟩=>⟨σ',hk,hf.trans hf'⟩) (Va hf.1 h3)⟩
theorem Fy {σ σc:Hp} (hs:Hp.Sub σ σc) {b:Nat} (h:σc b=none):σ b=none:=by
 cases e:σ b with
 | none=>rfl
 | some x=>have:=hs _ _ e;rw [h] at this;cases this
theorem PJ {α:Type} {P:Program} {s:Sem α} {σ σc:Hp} (hs:Hp.Sub σ σc):∀ {K:α->Prop},ywp P s K σ->ywp P s K σc:=by
 induction s with
 | pure a=>intro K h;exact h
 | load m a k ih=>
  intro K h
  obtain ⟨v,hv,h⟩:=h
  refine ⟨v,?_,ih _ h⟩
  unfold Hp.cell? at hv ⊢
  split at hv
  ·rename_i e;rw [hs _ _ e];exact hv
  ·cases hv
 | shape r k ih=>intro K h;obtain ⟨o,rw,hb,h⟩:=h;exact ⟨o,rw,hs _ _ hb,ih _ h⟩
 | frozen a k ih=>intro K h;obtain ⟨o,rw,hb,h⟩:=h;exact ⟨o,rw,hs _ _ hb,ih _ h⟩
 | getObj r k ih=>intro K h;obtain ⟨o,rw,hb,hc,h⟩:=h;exact ⟨o,rw,hs _ _ hb,hc,ih _ h⟩
 | program k ih=>intro K h;exact ih _ h
 | mark m k ih=>intro K h;exact ih h
 | store m a v k ih=>intro K h;exact h.elim
 | new o k ih=>intro K h;exact h.elim
 | freeze a n k ih=>intro K h;exact h.elim
 | setObj r o k ih=>intro K h;exact h.elim
 | choose q k ih=>intro K h;exact h.elim
 | sys c k ih=>intro K h;exact h.elim
 | halt h'=>intro K h;exact h.elim
theorem Aa6 {P:Program} {o:Oper} {ρ:Operand->Value} {σ σc:Hp} {K:Value->Hp->Prop} (hc:FE o.op=false) (hs:Hp.Sub σ σc) (h:lE P o ρ σ K):lE P o ρ σc fun v sc'=>∃ σ',K v σ'/\Frm σ σc σ' sc':=by
 obtain ⟨dst,op,ty,pos,after,guard⟩:=o
 cases op
 case box e x=>exact fun b hb=>⟨_,h b (Fy hs hb),Frm.ins hs hb _⟩
 case alloc e=>
  unfold lE at h ⊢
  try (simp only at h ⊢)
  split at h<;>first | exact h.elim | exact fun b hb=>⟨_,h b (Fy hs hb),Frm.ins hs hb _⟩
 case buildSlice t len parts=>
  unfold lE at h ⊢
  try (simp only at h ⊢)
  split at h<;>first | exact h.elim | skip
  split at h<;>first | exact h.elim | skip
  split at h<;>first | exact h.elim | skip
  ·rename_i h1 h2 h3
   split at h<;>first | exact h.elim | skip
   exact fun b hb=>⟨_,h b (Fy hs hb),Frm.ins hs hb _⟩
  ·rename_i h1 h2 h3
   split at h<;>first | exact h.elim | skip
   exact fun b hb=>⟨_,h b (Fy hs hb),Frm.ins hs hb _⟩
 case store t x v=>
  unfold lE at h ⊢
  try (simp only at h ⊢)
  split at h<;>first | exact h.elim | skip
  rename_i h1 h2 h3
  refine F7 (fun b off h=>?_) h
  exact NM (fun _ ⟨σ',hk,hf⟩=>⟨σ',hk,hf⟩) (Va hs h)
 case makeSlice t l c=>
  unfold lE at h ⊢
  try (simp only at h ⊢)
  split at h<;>first | exact h.elim | skip
  split at h<;>first | exact h.elim | skip
  split at h<;>first | exact h.elim | skip
  rename_i h1 h2 h3 h4
  exact ⟨h.1,h.2.1,h.2.2.1,fun b hb=>⟨_,h.2.2.2 b (Fy hs hb),Frm.ins hs hb _⟩⟩
 case makeMap t r=>
  cases r<;>first | exact h.elim | exact fun b hb=>⟨_,h b (Fy hs hb),Frm.ins hs hb _⟩
 case mapUpdate t m k x=>exact Ba _ _ (fun _ _ ⟨s'',hk,hf⟩=>⟨s'',hk,hf⟩) (I0 _ h hs)
 case insert t m k x=>exact Ba _ _ (fun _ _ ⟨s'',hk,hf⟩=>⟨s'',hk,hf⟩) (I0 _ h hs)
 case lookup t x i ok=>
  refine Cq _ _ (fun v hk=>?_) (PJ hs h)
  cases ok
  ·exact ⟨_,hk,Frm.refl hs⟩
  ·obtain ⟨u,t,e,hk⟩:=hk
   exact ⟨u,t,e,_,hk,Frm.refl hs⟩
 case range t x=>exact Ba _ _ (fun _ _ ⟨s'',⟨b,e,hk⟩,hf⟩=>⟨b,e,s'',hk,hf⟩) (I0 _ h hs)
 case next it s=>exact Ba _ _ (fun _ _ ⟨s'',⟨t,vs,e,hk⟩,hf⟩=>⟨t,vs,e,s'',hk,hf⟩) (I0 _ h hs)
 case entry it=>exact Cq _ _ (fun _ ⟨k,u,e,hk⟩=>⟨k,u,e,_,hk,Frm.refl hs⟩) (PJ hs h)
 case typeAssert x xt t ok=>cases ok<;>first | exact h.elim | exact Cq _ _ (fun _ hk=>⟨_,hk,Frm.refl hs⟩) (PJ hs h)
 case call c=>
  obtain ⟨callee,args,ts⟩:=c
  cases callee
  case invoke f m=>simp [FE] at hc
  case value f=>simp [FE] at hc
  case builtin b=>
   cases b<;>first | exact h.elim | skip
   case append=>exact Ba _ _ (fun v σ' ⟨s'',⟨A,n,c,e,hk⟩,hf⟩=>⟨A,n,c,e,s'',hk,hf⟩) (I0 _ h hs)
   case copy=>exact Ba _ _ (fun v σ' ⟨s'',⟨n,e,hk⟩,hf⟩=>⟨n,e,s'',hk,hf⟩) (I0 _ h hs)
   case clear=>exact Ba _ _ (fun v σ' ⟨s'',⟨e,hk⟩,hf⟩=>⟨e,s'',hk,hf⟩) (I0 _ h hs)
  all_goals exact h.elim
 all_goals exact h.elim
end Go.Proofs.YtoelhdjloaknbaaGreat
