/- Trimmed by wip/trim.py to what this claim rests on. -/
import Derived.Test.YthhadkggldcolaaGreatPB3
namespace Go.Proofs.YthhadkggldcolaaGreat
open Go.RowKit
def RdC (σ:Hp) (A:Option Addr) (vs:List Value):Prop:=vs=[]∨∃ b off,A=some ⟨b,off,none⟩/\∀ i v,vs[i]? = some v->σ.cell? ⟨b,off + i,none⟩=some v
theorem Pf {P:Program} {σ:Hp} {b off:Nat} {K:Array Value->Hp->Prop}:∀ (vs:List Value) (i:Nat) (acc:Array Value),(∀ j v,vs[j]? = some v->σ.cell? ⟨b,off + (i + j),none⟩=some v)->K (acc++vs.toArray) σ ->
  swp P (loadCellsFrom ⟨b,off,none⟩ i vs.length acc) K σ
 | [],i,acc,_,hk=>by
  simp only [Array.append_empty] at hk
  exact (show K acc σ from by simpa using hk)
 | v::vs,i,acc,hc,hk=>by
  refine ⟨v,?_,?_⟩
  ·rw [DS]
   have:=hc 0 v rfl
   simpa using this
  ·refine Pf vs (i + 1) (acc.push v) (fun j u hj=>?_) ?_
   ·have:=hc (j + 1) u (by simpa using hj)
    rw [← this]
    congr 2
    omega
   ·have e:acc.push v++vs.toArray=acc++(v::vs).toArray:=by
     rw [← Array.toList_inj]
     simp
    rw [e]
    exact hk
theorem Hw {P:Program} {σ:Hp} {A:Option Addr} {n c size:Nat} {vs:List Value} {K:Array Value->Hp->Prop} (h:RdC σ A vs) (hl:vs.length=n * size) (hA:A=none->vs=[]) (hk:K vs.toArray σ):swp P (Builtin.firstCells size n (.slice A n c)) K σ:=by
 cases A with
 | none =>
  rw [hA rfl] at hk
  exact hk
 | some a =>
  show swp P (loadCells a (n * size)) K σ
  rcases h with rfl | ⟨b,off,hb,hc⟩
  ·rw [← hl]
   exact hk
  ·cases hb
   rw [← hl]
   exact Pf vs 0 #[] (fun j v hj=>by rw [Nat.zero_add]; exact hc j v hj) (by simpa using hk)
theorem Vq {b off:Nat} {e:TypeId} {Q:Hp->Prop}:∀ (vs:List Value) (i:Nat) (c:Array Value) (σ:Hp),σ b=some (.cells c e (0,0),true)->(∀ v∈vs,GF v=true)->off + i + vs.length<=c.size ->
  (∀ c' σ',c'.size=c.size->(∀ j,j < off + i->c'[j]? = c[j]?)->(∀ j,off + i + vs.length<=j->c'[j]? = c[j]?)->(∀ j,j < vs.length->c'[off + i + j]? = vs[j]?)->σ' b=some (.cells c' e (0,0),true)->(∀ k,k≠b->σ' k=σ k)->Q σ') ->
  stc σ b off i vs Q
 | [],i,c,σ,hb,_,_,hq=>hq c σ rfl (fun _ _=>rfl) (fun _ _=>rfl) (fun j h=>by simp at h) hb fun _ _=>rfl
 | v::vs,i,c,σ,hb,ho,hs,hq=>by
  simp only [List.length_cons] at hs hq
  refine DU.2 ⟨ho v (List.mem_cons_self ..),⟨c,e,hb,by rw [LD]; show off + i < c.size; omega,rfl⟩,?_⟩
  refine Vq vs (i + 1) (c.setIfInBounds (off + i) v) _ (by rw [LD]; exact Hp.put_same hb) (fun u hu=>ho u (List.mem_cons_of_mem _ hu)) (by simp; omega) ?_
  intro c' σ' h1 h2 h3 h4 h5 h6
  refine hq c' σ' (by simpa using h1) (fun j hj=>?_) (fun j hj=>?_) (fun j hj=>?_) h5 (fun k hk=>?_)
  ·rw [h2 j (by omega),Array.getElem?_setIfInBounds_ne (by omega)]
  ·rw [h3 j (by omega),Array.getElem?_setIfInBounds_ne (by omega)]
  ·cases j with
   | zero =>
    rw [Nat.add_zero,h2 _ (by omega),Array.getElem?_setIfInBounds_self_of_lt (by omega)]
    rfl
   | succ j =>
    have:=h4 j (by omega)
    rw [show off + i + (j + 1)=off + (i + 1) + j from by omega,this]
    simp
  ·rw [h6 k hk,Hp.put_ne hk]
theorem Un {newLen:Nat}:∀ (r c m:Nat),c<=m->2 * newLen + 384<=m->Builtin.growBy newLen r c<=m
 | 0,c,m,h,_=>h
 | r + 1,c,m,h,hm=>by
  unfold Builtin.growBy
  split
  ·exact h
  ·exact Un r _ m (by omega) hm
theorem RY {n c:Nat} (h:c < n):Builtin.nextslicecap n c<=2 * n + 384:=by
 unfold Builtin.nextslicecap
 split
 ·omega
 ·split
  ·omega
  ·exact Un 4 c _ (by omega) (Nat.le_refl _)
theorem Wl {α:Type} {P:Program} {x y:α} {K:α->Hp->Prop} {σ:Hp} (e:x=y) (h:K y σ):swp P (pure x:Sem α) K σ:=by
 rw [e]
 exact h
theorem Xp {P:Program} {t0 t1 ty e:TypeId} {ie:TypeInfo} {d:TypeDesc} {z:Value} {σ:Hp} {base xb:Option Addr} {sLen sCap m xc:Nat} {old new:List Value} {K:Value->Hp->Prop}
  (hund:P.underlying t0=some (.slice e)) (hd:P.underlying t1=some d) (hni:∀ k,d≠.int k) (hie:P.info? e=some ie) (hz:ie.zero=some z) (hb:ie.bytes<=4096) (hroom:sLen + m<=4294967296)
  (ho:RdC σ base old) (hol:old.length=sLen * ie.size) (hoA:base=none->old=[]) (hn:RdC σ xb new) (hnl:new.length=m * ie.size) (hnA:xb=none->new=[])
  (hsp:∀ a,base=some a->a.spot=none) (h0:sLen + m<=sCap->base=none->K (.slice none (sLen + m) sCap) σ)
  (h1:sLen + m<=sCap->∀ b off,base=some ⟨b,off,none⟩->stc σ b (off + sLen * ie.size) 0 new fun σ'=>K (.slice (some ⟨b,off,none⟩) (sLen + m) sCap) σ')
  (h2:sCap < sLen + m->∀ newCap b,sLen + m<=newCap->σ b=none->K (.slice (some ⟨b,0,none⟩) (sLen + m) newCap) (σ.ins b (.cells (old.toArray++new.toArray++Builtin.zeroCells z.cells (newCap - (sLen + m))) e))) :
  swp P (Builtin.append_ #[t0,t1] ty #[.slice base sLen sCap,.slice xb m xc]) K σ:=by
 unfold Builtin.append_
 simp only [List.getElem?_toArray,List.getElem?_cons_zero,List.getElem?_cons_succ]
 refine Py hund ?_
 simp only
 refine Qe hie ?_
 refine Py hd ?_
 refine BI (P:=P) (pure _) _ _ _ ?_
 refine Wl (y:=false) (by cases d <;> first | rfl | exact absurd rfl (hni _)) ?_
 simp only [Bool.false_eq_true,if_false,Bool.not_false,if_true]
 refine BI (P:=P) (Builtin.lenOf _) _ _ _ ?_
 refine Abp _ _ _ ?_
 split
 ·rename_i hcap
  refine BI _ _ _ _ ?_
  refine Hw hn hnl hnA ?_
  cases base with
  | none=>exact h0 hcap rfl
  | some a =>
   obtain ⟨b,off,sp⟩:=a
   have:sp=none:=hsp _ rfl
   subst this
   have h1:=h1 hcap b off rfl
   simp only
   refine BI _ _ _ _ ?_
   rw [DS]
   exact Hl new 0 σ h1
 ·rename_i hcap
  refine Jo hie ?_
  rw [if_neg (by
   have:IntKind.i64.max=9223372036854775807:=by decide
   rw [this]
   omega)]
  refine Jo hie ?_
  have hle:=RY (n:=sLen + m) (c:=sCap) (by omega)
  have hmul:Builtin.nextslicecap (sLen + m) sCap * ie.bytes<=(2 * (sLen + m) + 384) * 4096:=Nat.mul_le_mul hle hb
  rw [if_neg (by omega)]
  refine BI _ _ _ _ ?_
  intro t
  have hf:(Question.appendCap (sLen + m) sCap e).forced=false:=rfl
  rw [hf]
  simp only [Bool.false_eq_true,if_false]
  have hcut:sLen + m<=(Question.appendCap (sLen + m) sCap e).cut t:=Nat.le_add_right _ _
  generalize (Question.appendCap (sLen + m) sCap e).cut t=newCap at hcut
  show swp P _ _ σ
  refine Jo hie ?_
  refine BI _ _ _ _ ?_
  have hroom':∀ {K:Unit->Hp->Prop},K () σ->swp P (askRoom (newCap * ie.bytes)) K σ:=by
   intro K hk
   unfold askRoom
   split
   ·exact hk
   ·exact hk
  refine hroom' ?_
  refine BI _ _ _ _ ?_
  refine Hw ho hol hoA ?_
  refine BI _ _ _ _ ?_
  refine Hw hn hnl hnA ?_
  refine Mk hie hz ?_
  exact fun b hb'=>h2 (by omega) newCap b hcut hb'
end Go.Proofs.YthhadkggldcolaaGreat
