/- Trimmed by wip/trim.py to what this claim rests on. -/
import Derived.Test.YtoelhdjloaknbaaGreatVB12
namespace Go.Proofs.YtoelhdjloaknbaaGreat
open Go.RowKit
theorem Y0 {α β:Type} {f:α->Option β} {y:β}:∀ {l:List α} {p:Nat} (hp:p<l.length),(∀ q,(h:q<l.length)->q<p->f l[q]=none)->f l[p]=some y->l.findSome? f=some y
 | x::l,0,_,_,h=>by
  rw [List.findSome?_cons]
  have h:f x=some y:=h
  rw [h]
 | x::l,p+1,hp,hb,h=>by
  rw [List.findSome?_cons]
  have h0:f x=none:=hb 0 (by simp) (by omega)
  rw [h0]
  exact Y0 (l:=l) (p:=p) (by simpa using hp) (fun q hq hqp=>hb (q+1) (by simpa using hq) (by omega)) h
theorem Aas {α β:Type} {f:α->Option β} {l:List α} (h:∀ q,(h:q<l.length)->f l[q]=none):l.findSome? f=none:=by
 rw [List.findSome?_eq_none_iff]
 intro x hx
 obtain ⟨q,hq,rfl⟩:=List.getElem_of_mem hx
 exact h q hq
def Ma {α:Type} (l:List α) (p:α->Bool):Option α:=match l.filter p with
 | [a]=>some a
 | _=>none
theorem Rg {α:Type} {p:α->Bool} {a:α}:∀ {l:List α},l.Nodup->a∈l->p a=true->(∀ x∈l,p x=true->x=a)->l.filter p=[a]
 | x::l,hn,ha,hp,hu=>by
  rw [List.nodup_cons] at hn
  rw [List.filter_cons]
  by_cases e:p x=true
  ·have:=hu x (by simp) e
   subst this
   rw [if_pos e]
   have:l.filter p=[]:=by
    rw [List.filter_eq_nil_iff]
    intro y hy hpy
    have:=hu y (by simp [hy]) hpy
    subst this
    exact hn.1 hy
   rw [this]
  ·rw [if_neg e]
   rcases List.mem_cons.1 ha with h | h
   ·subst h
    exact absurd hp e
   ·exact Rg hn.2 h hp fun y hy=>hu y (by simp [hy])
theorem La {α:Type} {l:List α} {p:α->Bool} {a:α} (h:Ma l p=some a):l.filter p=[a]:=by
 unfold Ma at h
 split at h
 ·rename_i e
  cases h
  exact e
 ·cases h
section
variable (kd:Nat->Int) (fit:Nat->Nat->Bool)
def wtL (w:List Bool) (K:Int):List Nat:=(List.range w.length).filter fun j=>w.getD j false&&decide (kd j=K)
def okM (w:List Bool) (c a:Nat):Bool:=fit c a&&((wtL kd w 1).all (fun i=>i==c || !fit i a)&&(wtL kd w 2).all (fun i=>i==a || !fit c i))
def nxA (w:List Bool) (c:Nat):Option (Nat×Nat):=((wtL kd w 2).find? fun a=>okM kd fit w c a).map fun a=>(c,a)
def nxM (w:List Bool):Option (Nat×Nat):=(wtL kd w 1).findSome? (nxA kd fit w)
def hrun (t:Int):Nat->List Bool->List (Nat×Nat×Int)->List Bool×List (Nat×Nat×Int)
 | 0,w,H=>(w,H)
 | n+1,w,H=>match nxM kd fit w with
  | none=>(w,H)
  | some (c,a)=>hrun t n ((w.set c false).set a false) (H++[(c,a,t)])
def HB (w:List Bool):Nat:=w.countP id
def mtc (tm:Nat->Int) (n:Nat):Nat->List Bool×List (Nat×Nat×Int)
 | 0=>(List.replicate n false,[])
 | k+1=>hrun kd fit (tm k) n ((mtc tm n k).1.set k true) (mtc tm n k).2
end
section
variable {kd:Nat->Int} {fit:Nat->Nat->Bool} {w:List Bool}
theorem Ey {K:Int} {j:Nat}:j∈wtL kd w K↔j<w.length/\w.getD j false=true/\kd j=K:=by
 unfold wtL
 rw [List.mem_filter,List.mem_range,Bool.and_eq_true,decide_eq_true_eq]
theorem TX {K:Int}:(wtL kd w K).Pairwise (· < ·):=List.Pairwise.sublist List.filter_sublist List.pairwise_lt_range
theorem Q6 {K:Int}:(wtL kd w K).Nodup:=(TX (kd:=kd) (w:=w) (K:=K)).imp fun h=>Nat.ne_of_lt h
theorem Pz {K:Int}:(wtL kd w K).length<=w.length:=by
 have:=List.length_filter_le (fun j=>w.getD j false&&decide (kd j=K)) (List.range w.length)
 rw [List.length_range] at this
 exact this
theorem Dy {w:List Bool} {i j:Nat} {b:Bool}:(w.set i b).getD j false=if i=j/\j<w.length then b else w.getD j false:=by
 rw [List.getD_eq_getElem?_getD,List.getD_eq_getElem?_getD,List.getElem?_set]
 by_cases e:i=j
 ·subst e
  by_cases h:i<w.length
  ·simp [h]
  ·simp [h]
 ·simp [e]
theorem R1 {K:Int} {c:Nat}:wtL kd (w.set c false) K=(wtL kd w K).filter fun j=>!(j==c):=by
 unfold wtL
 rw [List.filter_filter,List.length_set]
 refine List.filter_congr fun j hj=>?_
 have hj:=List.mem_range.1 hj
 rw [Dy]
 by_cases e:c=j
 ·subst e
  simp [hj]
 ·have e2:(j==c)=false:=by simp;omega
  rw [if_neg (fun h=>e h.1),e2]
  simp
theorem UG {K:Int} {i:Nat} (hi:i<w.length) (h0:∀ j,i<=j->w.getD j false=false):wtL kd (w.set i true) K=wtL kd w K++(if kd i=K then [i] else []):=by
 unfold wtL
 rw [List.length_set]
 have hl:w.length=i+(1+(w.length-i-1)):=by omega
 have e1:List.range w.length=List.range i++(i::(List.range (w.length-i-1)).map (fun x=>i+1+x)):=by
  rw [hl,List.range_add,List.range_add]
  congr 1
  simp [List.range_succ,List.map_map,Function.comp_def,Nat.add_assoc]
 rw [e1,List.filter_append,List.filter_append,List.filter_cons,List.filter_cons]
 have e2:∀ v:List Bool,(∀ j,i+1<=j->v.getD j false=false)->((List.range (w.length-i-1)).map (fun x=>i+1+x)).filter (fun j=>v.getD j false&&decide (kd j=K))=[]:=by
  intro v hv
  rw [List.filter_eq_nil_iff]
  intro x hx
  obtain ⟨y,_,rfl⟩:=List.mem_map.1 hx
  rw [hv _ (by omega)]
  simp
 rw [e2 w (fun j hj=>h0 j (by omega)),e2 (w.set i true) (fun j hj=>by rw [Dy,if_neg (by omega)];exact h0 j (by omega))]
 have e3:(List.range i).filter (fun j=>(w.set i true).getD j false&&decide (kd j=K))=(List.range i).filter (fun j=>w.getD j false&&decide (kd j=K)):=by
  refine List.filter_congr fun j hj=>?_
  have hj:=List.mem_range.1 hj
  rw [Dy,if_neg (by omega)]
 have e4:(w.set i true).getD i false=true:=by rw [Dy,if_pos ⟨rfl,hi⟩]
 rw [e3,h0 i (Nat.le_refl _),e4]
 by_cases e:kd i=K
 ·simp [e]
 ·simp [e]
theorem NJ {c a:Nat}:okM kd fit w c a=true↔fit c a=true/\(∀ i∈wtL kd w 1,i≠c->fit i a=false)/\∀ i∈wtL kd w 2,i≠a->fit c i=false:=by
 unfold okM
 rw [Bool.and_eq_true,Bool.and_eq_true,List.all_eq_true,List.all_eq_true]
 refine and_congr Iff.rfl (and_congr (forall_congr' fun i=>forall_congr' fun _=>?_) (forall_congr' fun i=>forall_congr' fun _=>?_))
 ·by_cases e:i=c<;>simp [e]
 ·by_cases e:i=a<;>simp [e]
theorem VL {c:Nat} (h:Ma (wtL kd w 2) (fit c)=none):nxA kd fit w c=none:=by
 unfold nxA
 cases e:(wtL kd w 2).find? fun a=>okM kd fit w c a with
 | none=>rfl
 | some a=>
  have h1:=List.find?_some e
  have h2:=List.mem_of_find?_eq_some e
  obtain ⟨o1,_,o3⟩:=NJ.1 h1
  unfold Ma at h
  rw [Rg Q6 h2 o1 fun x hx hp=>?_] at h
  ·cases h
  ·by_cases ex:x=a
   ·exact ex
   ·rw [o3 x hx ex] at hp
    cases hp
theorem Vs {c a:Nat} (hc:c∈wtL kd w 1) (h:Ma (wtL kd w 2) (fit c)=some a) (h2:Ma (wtL kd w 1) (fun x=>fit x a)=none):nxA kd fit w c=none:=by
 unfold nxA
 cases e:(wtL kd w 2).find? fun a=>okM kd fit w c a with
 | none=>rfl
 | some a'=>
  have g1:=List.find?_some e
  have g2:=List.mem_of_find?_eq_some e
  obtain ⟨o1,o2,_⟩:=NJ.1 g1
  have h:=La h
  have:a'∈(wtL kd w 2).filter (fit c):=List.mem_filter.2 ⟨g2,o1⟩
  rw [h,List.mem_singleton] at this
  subst this
  unfold Ma at h2
  rw [Rg Q6 hc o1 fun x hx hp=>?_] at h2
  ·cases h2
  ·by_cases ex:x=c
   ·exact ex
   ·rw [o2 x hx ex] at hp
    cases hp
theorem Xj {c a c':Nat} (hc:c∈wtL kd w 1) (h:Ma (wtL kd w 2) (fit c)=some a) (h2:Ma (wtL kd w 1) (fun x=>fit x a)=some c'):nxA kd fit w c=some (c,a):=by
 have h:=La h
 have h2:=La h2
 have ha:a∈(wtL kd w 2).filter (fit c):=by rw [h];simp
 obtain ⟨ha1,ha2⟩:=List.mem_filter.1 ha
 have hcc:c∈(wtL kd w 1).filter fun x=>fit x a:=List.mem_filter.2 ⟨hc,ha2⟩
 rw [h2,List.mem_singleton] at hcc
 subst hcc
 have hok:okM kd fit w c a=true:=NJ.2 ⟨ha2,fun i hi hne=>by
   cases e:fit i a with
   | false=>rfl
   | true=>
    have:i∈(wtL kd w 1).filter fun x=>fit x a:=List.mem_filter.2 ⟨hi,e⟩
    rw [h2,List.mem_singleton] at this
    exact absurd this hne,fun i hi hne=>by
   cases e:fit c i with
   | false=>rfl
   | true=>
    have:i∈(wtL kd w 2).filter (fit c):=List.mem_filter.2 ⟨hi,e⟩
    rw [h,List.mem_singleton] at this
    exact absurd this hne⟩
 unfold nxA
 cases e:(wtL kd w 2).find? fun a=>okM kd fit w c a with
 | none=>exact absurd hok (by have:=List.find?_eq_none.1 e a ha1;exact this)
 | some a'=>
  have g1:=List.find?_some e
  have g2:=List.mem_of_find?_eq_some e
  have:a'∈(wtL kd w 2).filter (fit c):=List.mem_filter.2 ⟨g2,(NJ.1 g1).1⟩
  rw [h,List.mem_singleton] at this
  subst this
  rfl
theorem Z7 {c:Nat} {r:Nat×Nat} (h:nxA kd fit w c=some r):r.1=c/\r.2∈wtL kd w 2/\okM kd fit w c r.2=true:=by
 unfold nxA at h
 cases e:(wtL kd w 2).find? fun a=>okM kd fit w c a with
 | none=>rw [e] at h;cases h
 | some a=>
  rw [e] at h
  cases h
  have g1:=List.find?_some e
  exact ⟨rfl,List.mem_of_find?_eq_some e,g1⟩
theorem Rz {c a:Nat} (h:nxM kd fit w=some (c,a)):c∈wtL kd w 1/\a∈wtL kd w 2/\okM kd fit w c a=true:=by
 unfold nxM at h
 obtain ⟨x,hx,he⟩:=List.exists_of_findSome?_eq_some h
 obtain ⟨h1,h2,h3⟩:=Z7 he
 have h1:c=x:=h1
 subst h1
 exact ⟨hx,h2,h3⟩
theorem Nw:∀ {w:List Bool} {c:Nat},w.getD c false=true->HB (w.set c false)+1=HB w
 | x::w,0,h=>by
  have h:x=true:=by simpa using h
  subst h
  simp [HB]
 | x::w,c+1,h=>by
  have:=Nw (w:=w) (c:=c) (by simpa using h)
  unfold HB at this ⊢
  rw [List.set_cons_succ,List.countP_cons,List.countP_cons]
  omega
 | [],c,h=>by simp at h
theorem TW {w:List Bool} {a:Nat}:HB (w.set a false)<=HB w:=by
 by_cases h:w.getD a false=true
 ·have:=Nw h
  omega
 ·by_cases ha:a<w.length
  ·have:w.set a false=w:=by
    refine List.ext_getElem (by simp) fun i h1 h2=>?_
    rw [List.getElem_set]
    split
    ·rename_i e
     subst e
     have:w.getD a false=w[a]:=by simp [List.getD,ha]
     rw [this] at h
     simpa using h
    ·rfl
   rw [this]
   exact Nat.le_refl _
  ·rw [List.set_eq_of_length_le (by omega)]
   exact Nat.le_refl _
theorem Yy {w:List Bool}:HB w<=w.length:=List.countP_le_length
section
variable {t:Int} {n:Nat} {H:List (Nat×Nat×Int)}
theorem VN (h:nxM kd fit w=none):hrun kd fit t n w H=(w,H):=by
 cases n with
 | zero=>rfl
 | succ n=>
  show (match nxM kd fit w with | none=>(w,H) | some (c,a)=>hrun kd fit t n ((w.set c false).set a false) (H++[(c,a,t)]))=_
  rw [h]
theorem Vu {c a:Nat} (hn:HB w<=n) (h:nxM kd fit w=some (c,a)):∃ m,m<n/\HB ((w.set c false).set a false)<=m/\hrun kd fit t n w H=hrun kd fit t m ((w.set c false).set a false) (H++[(c,a,t)]):=by
 obtain ⟨hc,_,_⟩:=Rz h
 have h1:=Nw (Ey.1 hc).2.1
 have h2:=TW (w:=w.set c false) (a:=a)
 cases n with
 | zero=>omega
 | succ n=>
  refine ⟨n,by omega,by omega,?_⟩
  show (match nxM kd fit w with | none=>(w,H) | some (c,a)=>hrun kd fit t n ((w.set c false).set a false) (H++[(c,a,t)]))=_
  rw [h]
end
def gone (H:List (Nat×Nat×Int)) (k:Nat):Bool:=H.any fun h=>h.1==k||h.2.1==k
theorem Qq {H:List (Nat×Nat×Int)} {x:Nat×Nat×Int} {k:Nat}:gone (H++[x]) k=(gone H k||(x.1==k||x.2.1==k)):=by
 unfold gone
 rw [List.any_append]
 simp
section
variable {tm:Nat->Int} {n:Nat}
structure HOk (kd:Nat->Int) (fit:Nat->Nat->Bool) (tm:Nat->Int) (n:Nat) (H:List (Nat×Nat×Int)) (x:Nat×Nat×Int):Prop where
 c:x.1<n/\kd x.1=1/\tm x.1<=x.2.2/\gone H x.1=false
 a:x.2.1<n/\kd x.2.1=2/\tm x.2.1<=x.2.2/\gone H x.2.1=false
 f:fit x.1 x.2.1=true
 no:∀ k,k<n->gone H k=false->k≠x.1->k≠x.2.1->tm k<x.2.2->¬ (kd k=1/\fit k x.2.1=true)/\¬ (kd k=2/\fit x.1 k=true)
def W4 (kd:Nat->Int) (fit:Nat->Nat->Bool) (tm:Nat->Int) (n:Nat) (H:List (Nat×Nat×Int)):Prop:=∀ m,(h:m<H.length)->HOk kd fit tm n (H.take m) H[m]
theorem W4.snoc {H:List (Nat×Nat×Int)} {x:Nat×Nat×Int} (h:W4 kd fit tm n H) (hx:HOk kd fit tm n H x):W4 kd fit tm n (H++[x]):=by
 intro m hm
 rw [List.length_append] at hm
 simp only [List.length_cons,List.length_nil] at hm
 rcases Nat.lt_or_ge m H.length with h1 | h1
 ·rw [List.getElem_append_left h1,List.take_append_of_le_length (by omega)]
  exact h m h1
 ·obtain rfl:m=H.length:=by omega
  rw [List.getElem_append_right (by omega),List.take_left']
  ·simpa using hx
  ·rfl
structure MSt (kd:Nat->Int) (fit:Nat->Nat->Bool) (tm:Nat->Int) (n i:Nat) (w:List Bool) (H:List (Nat×Nat×Int)):Prop where
 len:w.length=n
 w:∀ j,j<n->w.getD j false=(decide (j<i) && !gone H j)
 ok:W4 kd fit tm n H
 lt:∀ j,i<=j->gone H j=false
theorem MSt.run {i:Nat} (hm:∀ j k,j<=k->k<n->tm j<=tm k) (hi:i<n):∀ {m:Nat} {w:List Bool} {H:List (Nat×Nat×Int)},MSt kd fit tm n (i+1) w H->MSt kd fit tm n (i+1) (hrun kd fit (tm i) m w H).1 (hrun kd fit (tm i) m w H).2
 | 0,_,_,h=>h
 | m+1,w,H,h=>by
  have e:hrun kd fit (tm i) (m+1) w H=match nxM kd fit w with | none=>(w,H) | some (c,a)=>hrun kd fit (tm i) m ((w.set c false).set a false) (H++[(c,a,tm i)]):=rfl
  rw [e]
  cases en:nxM kd fit w with
  | none=>exact h
  | some r=>
   obtain ⟨c,a⟩:=r
   obtain ⟨hc,ha,hok⟩:=Rz en
   obtain ⟨hc1,hc2,hc3⟩:=Ey.1 hc
   obtain ⟨ha1,ha2,ha3⟩:=Ey.1 ha
   obtain ⟨o1,o2,o3⟩:=NJ.1 hok
   have hl:=h.len
   rw [h.w c (by omega),Bool.and_eq_true,decide_eq_true_eq,Bool.not_eq_true'] at hc2
   rw [h.w a (by omega),Bool.and_eq_true,decide_eq_true_eq,Bool.not_eq_true'] at ha2
   refine MSt.run hm hi (m:=m) ⟨by simp [hl],fun j hj=>?_,h.ok.snoc ⟨⟨show c<n by omega,hc3,hm c i (by omega) hi,hc2.2⟩,⟨show a<n by omega,ha3,hm a i (by omega) hi,ha2.2⟩,o1,fun k hk hg hkc hka htk=>?_⟩,fun j hj=>?_⟩
   ·rw [Dy,Dy,Qq,h.w j hj,List.length_set]
    by_cases e1:a=j
    ·subst e1
     rw [if_pos ⟨rfl,ha1⟩]
     simp
    ·rw [if_neg (fun x=>e1 x.1)]
     by_cases e2:c=j
     ·subst e2
      rw [if_pos ⟨rfl,hc1⟩]
      simp
     ·rw [if_neg (fun x=>e2 x.1)]
      have:(c==j||a==j)=false:=by simp;omega
      rw [this,Bool.or_false]
   ·have hki:k<i+1:=by
     rcases Nat.lt_or_ge k (i+1) with h1 | h1
     ·exact h1
     ·have:=hm i k (by omega) hk
      have htk:tm k<tm i:=htk
      omega
    have hwk:w.getD k false=true:=by
     rw [h.w k hk,hg,decide_eq_true hki]
     rfl
    refine ⟨fun x=>?_,fun x=>?_⟩
    ·rw [o2 k (Ey.2 ⟨by omega,hwk,x.1⟩) hkc] at x
     cases x.2
    ·rw [o3 k (Ey.2 ⟨by omega,hwk,x.1⟩) hka] at x
     cases x.2
   ·have:(c==j||a==j)=false:=by
     have h1:c≠j:=by omega
     have h2:a≠j:=by omega
     simp [h1,h2]
    rw [Qq,h.lt j hj]
    exact this
theorem MSt.all (hm:∀ j k,j<=k->k<n->tm j<=tm k):∀ {k:Nat},k<=n->MSt kd fit tm n k (mtc kd fit tm n k).1 (mtc kd fit tm n k).2
 | 0,_=>⟨by simp [mtc],fun j hj=>by simp [mtc,List.getD,hj],fun m h=>by simp [mtc] at h,fun j _=>rfl⟩
 | k+1,hk=>by
  have h:=MSt.all hm (k:=k) (by omega)
  show MSt kd fit tm n (k+1) (hrun kd fit (tm k) n ((mtc kd fit tm n k).1.set k true) (mtc kd fit tm n k).2).1 (hrun kd fit (tm k) n ((mtc kd fit tm n k).1.set k true) (mtc kd fit tm n k).2).2
  have hl:=h.len
  refine MSt.run hm (by omega) ⟨by rw [List.length_set];exact hl,fun j hj=>?_,h.ok,fun j hj=>h.lt j (by omega)⟩
  rw [Dy,h.w j hj]
  by_cases e:k=j
  ·subst e
   rw [if_pos ⟨rfl,by omega⟩]
   rw [h.lt k (Nat.le_refl _)]
   simp
  ·rw [if_neg (fun x=>e x.1)]
   congr 1
   exact decide_eq_decide.2 (by omega)
end
end
end Go.Proofs.YtoelhdjloaknbaaGreat
