/- Trimmed by wip/trim.py to what this claim rests on. -/
import Derived.Test.YthhadkggldcolaaGreatVQs1
namespace Go.Proofs.YthhadkggldcolaaGreat
open Go.RowKit Go.Shelf Go.Sort Go.Lib
def NQ (a b:Int×Int):Int:=a.1-b.1
theorem Tf (a b:Int×Int):NQ a b<0↔a.1<b.1:=by unfold NQ;omega
theorem Ws:SortQ:=by
 intro σ0 σ A n c xs ho hl hb hnd
 have key:∀ x∈xs,∀ y∈xs,x.1=y.1->x=y:=by
  intro x hx y hy e
  obtain ⟨i,hi,rfl⟩:=List.getElem_of_mem hx
  obtain ⟨j,hj,rfl⟩:=List.getElem_of_mem hy
  have hpw:=List.pairwise_iff_getElem.1 hnd
  rcases Nat.lt_trichotomy i j with h | h | h
  ·have:=hpw i j (by simpa using hi) (by simpa using hj) h
   rw [List.getElem_map,List.getElem_map] at this
   exact absurd e this
  ·subst h;rfl
  ·have:=hpw j i (by simpa using hj) (by simpa using hi) h
   rw [List.getElem_map,List.getElem_map] at this
   exact absurd e.symm this
 have h1:∀ x:TyR sQ,∀ v∈B7 sQ x,v.oneCell'=true:=by
  intro x v hv
  have hv:v∈[Value.int .i64 x.1,.int .i64 x.2]:=hv
  simp only [List.mem_cons,List.not_mem_nil,or_false] at hv
  rcases hv with rfl | rfl<;>rfl
 have hc:∀ x∈xs,∀ y∈xs,Af Tryz.prog C1 #[.agg (B7 sQ x).toArray,.agg (B7 sQ y).toArray] (fun _=>none) fun v _=>v=.int .i64 (NQ x y):=by
  intro x hx y hy
  have b1:=hb x hx
  have b2:=hb y hy
  refine IR _ _ _ _ _ _ ?_
  unfold C6
  exact AT (by omega) (Ah rfl)
 have k1:∀ x∈xs,¬ NQ x x<0:=fun x _=>by rw [Tf];omega
 have k2:∀ x∈xs,∀ y∈xs,∀ z∈xs,NQ x y<0->NQ y z<0->NQ x z<0:=fun x _ y _ z _ h2 h3=>by rw [Tf] at *;omega
 have k3:∀ x∈xs,∀ y∈xs,∀ z∈xs,¬ NQ x y<0->¬ NQ y z<0->¬ NQ x z<0:=fun x _ y _ z _ h2 h3=>by rw [Tf] at *;omega
 have k4:∀ x∈xs,∀ y∈xs,¬ NQ x y<0->¬ NQ y x<0->x=y:=fun x hx y hy h2 h3=>by rw [Tf] at *;exact key x hx y hy (by omega)
 have:=Qu (ss:=sQ) (g:=C1) YthhadkggldcolaaGreat.sortQ Tryz.isAgg206 Tryz.sizeOf206 h1 NQ (enters_of Tryz.func199 (by kernel_rfl) rfl) ho hl hc k1 k2 k3 k4
 have e:(fun x y:Int×Int=>!decide (NQ y x<0))=fun x y=>decide (x.1<=y.1):=by
  funext x y
  unfold NQ
  by_cases h:x.1<=y.1
  ·rw [decide_eq_true h,decide_eq_false (by omega)];rfl
  ·rw [decide_eq_false h,decide_eq_true (by omega)];rfl
 refine this.mono ?_
 rintro v σ' ⟨rfl,h⟩
 refine ⟨rfl,?_⟩
 have h':Ai 206 sQ σ0 A n c (List.mergeSort (α:=Int×Int) xs fun x y=>!decide (NQ y x<0)) σ':=h
 rw [e,Gj (α:=Int×Int) (le:=fun x y=>decide (x.1<=y.1)) (fun a b c h1 h2=>decide_eq_true (Int.le_trans (of_decide_eq_true h1) (of_decide_eq_true h2))) (fun a b=>by simp only [decide_eq_true_eq];omega) (fun a ha b hb h1 h2=>key a ha b hb (Int.le_antisymm (of_decide_eq_true h1) (of_decide_eq_true h2)))] at h'
 exact h'
def orI:List Int->Int
 | []=>0
 | x::xs=>if x=0 then orI xs else x
theorem Aa7 {σ:Hp} {A:Option Addr} {n c:Nat} {xs:List Int} (hx:RdS [.int .i64] σ A n xs) (hl:xs.length<=4294967296):Af Tryz.prog V4 #[.slice A n c] σ fun v σ'=>v=.int .i64 (orI xs)/\σ'=σ:=by
 refine SQ _ _ _ _ _ ?_
 unfold Ka
 have hn:=hx.lenI
 refine Ad fun J3 h3=>?_
 refine ⟨fun w i τ=>∃ k:Nat,w=xs.length-k/\i=k/\k<=xs.length/\τ=σ/\orI (xs.drop k)=orI xs,⟨_,0,rfl,rfl,by omega,rfl,rfl⟩,?_⟩
 rintro w i τ ⟨k,rfl,rfl,hk,rfl,he⟩ _
 refine AA (fun hlt=>?_) (fun hlt=>?_)
 ·have hkl:k<xs.length:=by omega
  refine Cx hx (by omega) (by omega) ?_
  rw [List.drop_eq_getElem_cons hkl,orI] at he
  rw [Cd hkl]
  refine Bu (fun hne=>Ah ⟨?_,rfl⟩) (fun h0=>AT (by omega) (A0 _ (by omega) ⟨k+1,rfl,by omega,by omega,rfl,?_⟩))
  ·rw [← he,if_neg hne]
  ·rw [← he,if_pos h0]
 ·have:k=xs.length:=by omega
  subst this
  rw [h3]
  intro _
  refine Ah ⟨?_,rfl⟩
  rw [← he,List.drop_length]
  rfl
def Vis.left (v:Vis):Int:=v.2.2.2.2.2
def NC (a b:Vis):Int:=orI [a.left-b.left,a.1-b.1,a.2.1-b.2.1]
def vle (x y:Vis):Bool:=!decide (NC y x<0)
def R3 (xs:List Vis):List Vis:=QA vle xs
theorem QC (a b:Vis):NC a b<0↔a.left<b.left∨a.left=b.left/\(a.1<b.1∨a.1=b.1/\a.2.1<b.2.1):=by
 simp only [NC,orI]
 split
 ·split
  ·split<;>omega
  ·omega
 ·omega
theorem Nc (a b:Vis):vle a b=true↔¬ (b.left<a.left∨b.left=a.left/\(b.1<a.1∨b.1=a.1/\b.2.1<a.2.1)):=by
 unfold vle
 rw [Bool.not_eq_true',decide_eq_false_iff_not,QC]
theorem QG (a b c:Vis) (h1:vle a b=true) (h2:vle b c=true):vle a c=true:=by rw [Nc] at *;omega
theorem Rx (a b:Vis):vle a b=true∨vle b a=true:=by rw [Nc,Nc];omega
theorem Ab1 {σ:Hp} {a b:Vis} (ha:∀ v∈[a,b],(0<=v.left/\v.left<=1000000)/\(0<=v.1/\v.1<=1000000)/\(0<=v.2.1/\v.2.1<=1000000)):Af Tryz.prog EJ #[.agg (B7 sV a).toArray,.agg (B7 sV b).toArray] σ fun v _=>v=.int .i64 (NC a b):=by
 have h1:=ha a (by simp)
 have h2:=ha b (by simp)
 refine Ql _ _ _ _ _ _ _ _ _ _ _ _ _ _ ?_
 unfold Ht
 have e1:a.left=a.2.2.2.2.2:=rfl
 have e2:b.left=b.2.2.2.2.2:=rfl
 rw [e1] at h1
 rw [e2] at h2
 refine AT (by omega) (AT (by omega) (AT (by omega) ?_))
 intro A n c σ' ho
 refine clI Om (Aa7 ho.RdI (by simp)) (Ah rfl)
def SortV:Prop:=∀ (σ0 σ:Hp) (A:Option Addr) (n c:Nat) (xs:List Vis),Ai 59 sV σ0 A n c xs σ->xs.length<=4294967296 ->
 (∀ v∈xs,(0<=v.left/\v.left<=1000000)/\(0<=v.1/\v.1<=1000000)/\(0<=v.2.1/\v.2.1<=1000000))->(∀ x∈xs,∀ y∈xs,x.1=y.1->x.2.1=y.2.1->x=y) ->
 Af Tryz.prog GE #[.slice A n c,.func (.func EJ) #[] #[]] σ fun v σ'=>v=.tuple #[]/\Ai 59 sV σ0 A n c (R3 xs) σ'
theorem Xv:SortV:=by
 intro σ0 σ A n c xs ho hl hb hT
 have h1:∀ x:TyR sV,∀ v∈B7 sV x,v.oneCell'=true:=by
  intro x v hv
  have:v∈[Value.int .i64 x.1,.int .i64 x.2.1,.int .i64 x.2.2.1,.bool x.2.2.2.1,.int .i64 x.2.2.2.2.1,.int .i64 x.2.2.2.2.2]:=hv
  simp only [List.mem_cons,List.not_mem_nil,or_false] at this
  rcases this with rfl | rfl | rfl | rfl | rfl | rfl<;>rfl
 have hc:∀ x∈xs,∀ y∈xs,Af Tryz.prog EJ #[.agg (B7 sV x).toArray,.agg (B7 sV y).toArray] (fun _=>none) fun v _=>v=.int .i64 (NC x y):=by
  intro x hx y hy
  refine Ab1 fun v hv=>?_
  simp only [List.mem_cons,List.not_mem_nil,or_false] at hv
  rcases hv with rfl | rfl
  ·exact hb _ hx
  ·exact hb _ hy
 have k1:∀ x∈xs,¬ NC x x<0:=fun x _=>by rw [QC];omega
 have k2:∀ x∈xs,∀ y∈xs,∀ z∈xs,NC x y<0->NC y z<0->NC x z<0:=fun x _ y _ z _ h2 h3=>by rw [QC] at *;omega
 have k3:∀ x∈xs,∀ y∈xs,∀ z∈xs,¬ NC x y<0->¬ NC y z<0->¬ NC x z<0:=fun x _ y _ z _ h2 h3=>by rw [QC] at *;omega
 have k4:∀ x∈xs,∀ y∈xs,¬ NC x y<0->¬ NC y x<0->x=y:=fun x hx y hy h2 h3=>by rw [QC] at *;exact hT x hx y hy (by omega) (by omega)
 have em:(xs:List Vis).mergeSort (fun x y=>!decide (NC y x<0))=R3 xs:=Gj (le:=vle) QG Rx (fun a ha b hb h1 h2=>by rw [Nc] at h1 h2;exact hT a ha b hb (by omega) (by omega))
 rw [← em]
 exact Qu (ss:=sV) (g:=EJ) YthhadkggldcolaaGreat.sortV Tryz.isAgg59 Tryz.sizeOf59 h1 NC (enters_of Tryz.func136 (by kernel_rfl) rfl) ho hl hc k1 k2 k3 k4
end Go.Proofs.YthhadkggldcolaaGreat
