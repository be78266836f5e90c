/- Trimmed by wip/trim.py to what this claim rests on. -/
import Derived.Test.YtoelhdjloaknbaaGreatPB12
namespace Go.Proofs.YtoelhdjloaknbaaGreat
open Go.RowKit
theorem Zq {α β:Type} {f:α->Option β} {y:β}:∀ {l:List α} {p:Nat} (hp:p<l.length),(∀ q,(h:q<l.length)->q<p->f l[q]=none)->f l[p]=some y->l.findSome? f=some y
 | x::l,0,_,_,h=>by
  rw [List.findSome?_cons]
  have h:f x=some y:=h
  rw [h]
 | x::l,p+1,hp,hb,h=>by
  rw [List.findSome?_cons]
  have h0:f x=none:=hb 0 (by simp) (by omega)
  rw [h0]
  exact Zq (l:=l) (p:=p) (by simpa using hp) (fun q hq hqp=>hb (q+1) (by simpa using hq) (by omega)) h
theorem Aa9 {α β:Type} {f:α->Option β} {l:List α} (h:∀ q,(h:q<l.length)->f l[q]=none):l.findSome? f=none:=by
 rw [List.findSome?_eq_none_iff]
 intro x hx
 obtain ⟨q,hq,rfl⟩:=List.getElem_of_mem hx
 exact h q hq
def MU {α:Type} (l:List α) (p:α->Bool):Option α:=match l.filter p with
 | [a]=>some a
 | _=>none
theorem Sv {α:Type} {p:α->Bool} {a:α}:∀ {l:List α},l.Nodup->a∈l->p a=true->(∀ x∈l,p x=true->x=a)->l.filter p=[a]
 | x::l,hn,ha,hp,hu=>by
  rw [List.nodup_cons] at hn
  rw [List.filter_cons]
  by_cases e:p x=true
  ·have:=hu x (by simp) e
   subst this
   rw [if_pos e]
   have:l.filter p=[]:=by
    rw [List.filter_eq_nil_iff]
    intro y hy hpy
    have:=hu y (by simp [hy]) hpy
    subst this
    exact hn.1 hy
   rw [this]
  ·rw [if_neg e]
   rcases List.mem_cons.1 ha with h | h
   ·subst h
    exact absurd hp e
   ·exact Sv hn.2 h hp fun y hy=>hu y (by simp [hy])
theorem Lo {α:Type} {l:List α} {p:α->Bool} {a:α} (h:MU l p=some a):l.filter p=[a]:=by
 unfold MU at h
 split at h
 ·rename_i e
  cases h
  exact e
 ·cases h
section
variable (kd:Nat->Int) (fit:Nat->Nat->Bool)
def wtL (w:List Bool) (K:Int):List Nat:=(List.range w.length).filter fun j=>w.getD j false&&decide (kd j=K)
def okM (w:List Bool) (c a:Nat):Bool:=fit c a&&((wtL kd w 1).all (fun i=>i==c || !fit i a)&&(wtL kd w 2).all (fun i=>i==a || !fit c i))
def nxA (w:List Bool) (c:Nat):Option (Nat×Nat):=((wtL kd w 2).find? fun a=>okM kd fit w c a).map fun a=>(c,a)
def nxM (w:List Bool):Option (Nat×Nat):=(wtL kd w 1).findSome? (nxA kd fit w)
def hrun (t:Int):Nat->List Bool->List (Nat×Nat×Int)->List Bool×List (Nat×Nat×Int)
 | 0,w,H=>(w,H)
 | n+1,w,H=>match nxM kd fit w with
  | none=>(w,H)
  | some (c,a)=>hrun t n ((w.set c false).set a false) (H++[(c,a,t)])
def Gf (w:List Bool):Nat:=w.countP id
def mtc (tm:Nat->Int) (n:Nat):Nat->List Bool×List (Nat×Nat×Int)
 | 0=>(List.replicate n false,[])
 | k+1=>hrun kd fit (tm k) n ((mtc tm n k).1.set k true) (mtc tm n k).2
end
section
variable {kd:Nat->Int} {fit:Nat->Nat->Bool} {w:List Bool}
theorem Bp {K:Int} {j:Nat}:j∈wtL kd w K↔j<w.length/\w.getD j false=true/\kd j=K:=by
 unfold wtL
 rw [List.mem_filter,List.mem_range,Bool.and_eq_true,decide_eq_true_eq]
theorem MO {K:Int}:(wtL kd w K).Pairwise (· < ·):=List.Pairwise.sublist List.filter_sublist List.pairwise_lt_range
theorem Rn {K:Int}:(wtL kd w K).Nodup:=(MO (kd:=kd) (w:=w) (K:=K)).imp fun h=>Nat.ne_of_lt h
theorem PP {K:Int}:(wtL kd w K).length<=w.length:=by
 have:=List.length_filter_le (fun j=>w.getD j false&&decide (kd j=K)) (List.range w.length)
 rw [List.length_range] at this
 exact this
theorem Jc {w:List Bool} {i j:Nat} {b:Bool}:(w.set i b).getD j false=if i=j/\j<w.length then b else w.getD j false:=by
 rw [List.getD_eq_getElem?_getD,List.getD_eq_getElem?_getD,List.getElem?_set]
 by_cases e:i=j
 ·subst e
  by_cases h:i<w.length
  ·simp [h]
  ·simp [h]
 ·simp [e]
theorem Sd {K:Int} {c:Nat}:wtL kd (w.set c false) K=(wtL kd w K).filter fun j=>!(j==c):=by
 unfold wtL
 rw [List.filter_filter,List.length_set]
 refine List.filter_congr fun j hj=>?_
 have hj:=List.mem_range.1 hj
 rw [Jc]
 by_cases e:c=j
 ·subst e
  simp [hj]
 ·have e2:(j==c)=false:=by simp;omega
  rw [if_neg (fun h=>e h.1),e2]
  simp
theorem Vl {K:Int} {i:Nat} (hi:i<w.length) (h0:∀ j,i<=j->w.getD j false=false):wtL kd (w.set i true) K=wtL kd w K++(if kd i=K then [i] else []):=by
 unfold wtL
 rw [List.length_set]
 have hl:w.length=i+(1+(w.length-i-1)):=by omega
 have e1:List.range w.length=List.range i++(i::(List.range (w.length-i-1)).map (fun x=>i+1+x)):=by
  rw [hl,List.range_add,List.range_add]
  congr 1
  simp [List.range_succ,List.map_map,Function.comp_def,Nat.add_assoc]
 rw [e1,List.filter_append,List.filter_append,List.filter_cons,List.filter_cons]
 have e2:∀ v:List Bool,(∀ j,i+1<=j->v.getD j false=false)->((List.range (w.length-i-1)).map (fun x=>i+1+x)).filter (fun j=>v.getD j false&&decide (kd j=K))=[]:=by
  intro v hv
  rw [List.filter_eq_nil_iff]
  intro x hx
  obtain ⟨y,_,rfl⟩:=List.mem_map.1 hx
  rw [hv _ (by omega)]
  simp
 rw [e2 w (fun j hj=>h0 j (by omega)),e2 (w.set i true) (fun j hj=>by rw [Jc,if_neg (by omega)];exact h0 j (by omega))]
 have e3:(List.range i).filter (fun j=>(w.set i true).getD j false&&decide (kd j=K))=(List.range i).filter (fun j=>w.getD j false&&decide (kd j=K)):=by
  refine List.filter_congr fun j hj=>?_
  have hj:=List.mem_range.1 hj
  rw [Jc,if_neg (by omega)]
 have e4:(w.set i true).getD i false=true:=by rw [Jc,if_pos ⟨rfl,hi⟩]
 rw [e3,h0 i (Nat.le_refl _),e4]
 by_cases e:kd i=K
 ·simp [e]
 ·simp [e]
theorem NR {c a:Nat}:okM kd fit w c a=true↔fit c a=true/\(∀ i∈wtL kd w 1,i≠c->fit i a=false)/\∀ i∈wtL kd w 2,i≠a->fit c i=false:=by
 unfold okM
 rw [Bool.and_eq_true,Bool.and_eq_true,List.all_eq_true,List.all_eq_true]
 refine and_congr Iff.rfl (and_congr (forall_congr' fun i=>forall_congr' fun _=>?_) (forall_congr' fun i=>forall_congr' fun _=>?_))
 ·by_cases e:i=c<;>simp [e]
 ·by_cases e:i=a<;>simp [e]
theorem Wa {c:Nat} (h:MU (wtL kd w 2) (fit c)=none):nxA kd fit w c=none:=by
 unfold nxA
 cases e:(wtL kd w 2).find? fun a=>okM kd fit w c a with
 | none=>rfl
 | some a=>
  have h1:=List.find?_some e
  have h2:=List.mem_of_find?_eq_some e
  obtain ⟨o1,_,o3⟩:=NR.1 h1
  unfold MU at h
  rw [Sv Rn h2 o1 fun x hx hp=>?_] at h
  ·cases h
  ·by_cases ex:x=a
   ·exact ex
   ·rw [o3 x hx ex] at hp
    cases hp
theorem VX {c a:Nat} (hc:c∈wtL kd w 1) (h:MU (wtL kd w 2) (fit c)=some a) (h2:MU (wtL kd w 1) (fun x=>fit x a)=none):nxA kd fit w c=none:=by
 unfold nxA
 cases e:(wtL kd w 2).find? fun a=>okM kd fit w c a with
 | none=>rfl
 | some a'=>
  have g1:=List.find?_some e
  have g2:=List.mem_of_find?_eq_some e
  obtain ⟨o1,o2,_⟩:=NR.1 g1
  have h:=Lo h
  have:a'∈(wtL kd w 2).filter (fit c):=List.mem_filter.2 ⟨g2,o1⟩
  rw [h,List.mem_singleton] at this
  subst this
  unfold MU at h2
  rw [Sv Rn hc o1 fun x hx hp=>?_] at h2
  ·cases h2
  ·by_cases ex:x=c
   ·exact ex
   ·rw [o2 x hx ex] at hp
    cases hp
theorem Yn {c a c':Nat} (hc:c∈wtL kd w 1) (h:MU (wtL kd w 2) (fit c)=some a) (h2:MU (wtL kd w 1) (fun x=>fit x a)=some c'):nxA kd fit w c=some (c,a):=by
 have h:=Lo h
 have h2:=Lo h2
 have ha:a∈(wtL kd w 2).filter (fit c):=by rw [h];simp
 obtain ⟨ha1,ha2⟩:=List.mem_filter.1 ha
 have hcc:c∈(wtL kd w 1).filter fun x=>fit x a:=List.mem_filter.2 ⟨hc,ha2⟩
 rw [h2,List.mem_singleton] at hcc
 subst hcc
 have hok:okM kd fit w c a=true:=NR.2 ⟨ha2,fun i hi hne=>by
   cases e:fit i a with
   | false=>rfl
   | true=>
    have:i∈(wtL kd w 1).filter fun x=>fit x a:=List.mem_filter.2 ⟨hi,e⟩
    rw [h2,List.mem_singleton] at this
    exact absurd this hne,fun i hi hne=>by
   cases e:fit c i with
   | false=>rfl
   | true=>
    have:i∈(wtL kd w 2).filter (fit c):=List.mem_filter.2 ⟨hi,e⟩
    rw [h,List.mem_singleton] at this
    exact absurd this hne⟩
 unfold nxA
 cases e:(wtL kd w 2).find? fun a=>okM kd fit w c a with
 | none=>exact absurd hok (by have:=List.find?_eq_none.1 e a ha1;exact this)
 | some a'=>
  have g1:=List.find?_some e
  have g2:=List.mem_of_find?_eq_some e
  have:a'∈(wtL kd w 2).filter (fit c):=List.mem_filter.2 ⟨g2,(NR.1 g1).1⟩
  rw [h,List.mem_singleton] at this
  subst this
  rfl
theorem W7 {c:Nat} {r:Nat×Nat} (h:nxA kd fit w c=some r):r.1=c/\r.2∈wtL kd w 2/\okM kd fit w c r.2=true:=by
 unfold nxA at h
 cases e:(wtL kd w 2).find? fun a=>okM kd fit w c a with
 | none=>rw [e] at h;cases h
 | some a=>
  rw [e] at h
  cases h
  have g1:=List.find?_some e
  exact ⟨rfl,List.mem_of_find?_eq_some e,g1⟩
theorem RW {c a:Nat} (h:nxM kd fit w=some (c,a)):c∈wtL kd w 1/\a∈wtL kd w 2/\okM kd fit w c a=true:=by
 unfold nxM at h
 obtain ⟨x,hx,he⟩:=List.exists_of_findSome?_eq_some h
 obtain ⟨h1,h2,h3⟩:=W7 he
 have h1:c=x:=h1
 subst h1
 exact ⟨hx,h2,h3⟩
theorem TI {l:List Nat} {p:Nat->Bool} {a:Nat} (hs:l.Pairwise (· < ·)) (ha:a∈l) (hp:p a=true) (hb:∀ x∈l,x<a->p x=false):l.find? p=some a:=by
 induction l with
 | nil=>cases ha
 | cons x l ih=>
  rw [List.pairwise_cons] at hs
  rw [List.find?_cons]
  rcases List.mem_cons.1 ha with h | h
  ·subst h
   rw [hp]
  ·rw [hb x (by simp) (hs.1 a h)]
   exact ih hs.2 h fun y hy=>hb y (by simp [hy])
theorem VN {l:List Nat} {f:Nat->Option (Nat×Nat)} {a:Nat} {y:Nat×Nat} (hs:l.Pairwise (· < ·)) (ha:a∈l) (hp:f a=some y) (hb:∀ x∈l,x<a->f x=none):l.findSome? f=some y:=by
 induction l with
 | nil=>cases ha
 | cons x l ih=>
  rw [List.pairwise_cons] at hs
  rw [List.findSome?_cons]
  rcases List.mem_cons.1 ha with h | h
  ·subst h
   rw [hp]
  ·rw [hb x (by simp) (hs.1 a h)]
   exact ih hs.2 h fun y hy=>hb y (by simp [hy])
theorem Xb {c:Nat} (h:∀ a∈wtL kd w 2,okM kd fit w c a=false):nxA kd fit w c=none:=by
 cases e:nxA kd fit w c with
 | none=>rfl
 | some r=>
  obtain ⟨_,h2,h3⟩:=W7 e
  rw [h _ h2] at h3
  cases h3
theorem ZD {c a:Nat} (hc:c∈wtL kd w 1) (ha:a∈wtL kd w 2) (hok:okM kd fit w c a=true) (hb:∀ c'∈wtL kd w 1,c'<c->∀ a'∈wtL kd w 2,okM kd fit w c' a'=false) (hb2:∀ a'∈wtL kd w 2,a'<a->okM kd fit w c a'=false):nxM kd fit w=some (c,a):=by
 refine VN MO hc ?_ fun x hx hlt=>Xb (hb x hx hlt)
 unfold nxA
 rw [TI MO ha hok hb2]
 rfl
theorem Aav (h:∀ c∈wtL kd w 1,∀ a∈wtL kd w 2,okM kd fit w c a=false):nxM kd fit w=none:=by
 unfold nxM
 rw [List.findSome?_eq_none_iff]
 exact fun c hc=>Xb (h c hc)
theorem Lp:∀ {w:List Bool} {c:Nat},w.getD c false=true->Gf (w.set c false)+1=Gf w
 | x::w,0,h=>by
  have h:x=true:=by simpa using h
  subst h
  simp [Gf]
 | x::w,c+1,h=>by
  have:=Lp (w:=w) (c:=c) (by simpa using h)
  unfold Gf at this ⊢
  rw [List.set_cons_succ,List.countP_cons,List.countP_cons]
  omega
 | [],c,h=>by simp at h
theorem SE {w:List Bool} {a:Nat}:Gf (w.set a false)<=Gf w:=by
 by_cases h:w.getD a false=true
 ·have:=Lp h
  omega
 ·by_cases ha:a<w.length
  ·have:w.set a false=w:=by
    refine List.ext_getElem (by simp) fun i h1 h2=>?_
    rw [List.getElem_set]
    split
    ·rename_i e
     subst e
     have:w.getD a false=w[a]:=by simp [List.getD,ha]
     rw [this] at h
     simpa using h
    ·rfl
   rw [this]
   exact Nat.le_refl _
  ·rw [List.set_eq_of_length_le (by omega)]
   exact Nat.le_refl _
theorem U8 {w:List Bool}:Gf w<=w.length:=List.countP_le_length
section
variable {t:Int} {n:Nat} {H:List (Nat×Nat×Int)}
theorem Rm (h:nxM kd fit w=none):hrun kd fit t n w H=(w,H):=by
 cases n with
 | zero=>rfl
 | succ n=>
  show (match nxM kd fit w with | none=>(w,H) | some (c,a)=>hrun kd fit t n ((w.set c false).set a false) (H++[(c,a,t)]))=_
  rw [h]
theorem RD {c a:Nat} (hn:Gf w<=n) (h:nxM kd fit w=some (c,a)):∃ m,m<n/\Gf ((w.set c false).set a false)<=m/\hrun kd fit t n w H=hrun kd fit t m ((w.set c false).set a false) (H++[(c,a,t)]):=by
 obtain ⟨hc,_,_⟩:=RW h
 have h1:=Lp (Bp.1 hc).2.1
 have h2:=SE (w:=w.set c false) (a:=a)
 cases n with
 | zero=>omega
 | succ n=>
  refine ⟨n,by omega,by omega,?_⟩
  show (match nxM kd fit w with | none=>(w,H) | some (c,a)=>hrun kd fit t n ((w.set c false).set a false) (H++[(c,a,t)]))=_
  rw [h]
end
def gone (H:List (Nat×Nat×Int)) (k:Nat):Bool:=H.any fun h=>h.1==k||h.2.1==k
section
variable {tm:Nat->Int} {n:Nat}
end
end
end Go.Proofs.YtoelhdjloaknbaaGreat
