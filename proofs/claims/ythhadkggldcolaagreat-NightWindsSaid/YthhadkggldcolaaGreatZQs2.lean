/- Trimmed by wip/trim.py to what this claim rests on. -/
import Derived.Test.YthhadkggldcolaaGreatZQs1
namespace Go.Proofs.YthhadkggldcolaaGreat
open Go.RowKit Go.Shelf Go.Sort Go.Lib
def LW (a b:Int×Int):Int:=a.1-b.1
theorem Qa (a b:Int×Int):LW a b<0↔a.1<b.1:=by unfold LW;omega
theorem Tm:SortQ:=by
 intro σ0 σ A n c xs ho hl hb hnd
 have key:∀ x∈xs,∀ y∈xs,x.1=y.1->x=y:=by
  intro x hx y hy e
  obtain ⟨i,hi,rfl⟩:=List.getElem_of_mem hx
  obtain ⟨j,hj,rfl⟩:=List.getElem_of_mem hy
  have hpw:=List.pairwise_iff_getElem.1 hnd
  rcases Nat.lt_trichotomy i j with h | h | h
  ·have:=hpw i j (by simpa using hi) (by simpa using hj) h
   rw [List.getElem_map,List.getElem_map] at this
   exact absurd e this
  ·subst h;rfl
  ·have:=hpw j i (by simpa using hj) (by simpa using hi) h
   rw [List.getElem_map,List.getElem_map] at this
   exact absurd e.symm this
 have h1:∀ x:TyR sQ,∀ v∈B8 sQ x,v.oneCell'=true:=by
  intro x v hv
  have hv:v∈[Value.int .i64 x.1,.int .i64 x.2]:=hv
  simp only [List.mem_cons,List.not_mem_nil,or_false] at hv
  rcases hv with rfl | rfl<;>rfl
 have hc:∀ x∈xs,∀ y∈xs,Ae Tryz.prog Cv #[.agg (B8 sQ x).toArray,.agg (B8 sQ y).toArray] (fun _=>none) fun v _=>v=.int .i64 (LW x y):=by
  intro x hx y hy
  have b1:=hb x hx
  have b2:=hb y hy
  refine HS _ _ _ _ _ _ ?_
  unfold CE
  exact AP (by omega) (Ah rfl)
 have k1:∀ x∈xs,¬ LW x x<0:=fun x _=>by rw [Qa];omega
 have k2:∀ x∈xs,∀ y∈xs,∀ z∈xs,LW x y<0->LW y z<0->LW x z<0:=fun x _ y _ z _ h2 h3=>by rw [Qa] at *;omega
 have k3:∀ x∈xs,∀ y∈xs,∀ z∈xs,¬ LW x y<0->¬ LW y z<0->¬ LW x z<0:=fun x _ y _ z _ h2 h3=>by rw [Qa] at *;omega
 have k4:∀ x∈xs,∀ y∈xs,¬ LW x y<0->¬ LW y x<0->x=y:=fun x hx y hy h2 h3=>by rw [Qa] at *;exact key x hx y hy (by omega)
 have:=N0 (ss:=sQ) (g:=Cv) YthhadkggldcolaaGreat.sortQ Tryz.isAgg206 Tryz.sizeOf206 h1 LW (enters_of Tryz.func199 (by kernel_rfl) rfl) ho hl hc k1 k2 k3 k4
 have e:(fun x y:Int×Int=>!decide (LW y x<0))=fun x y=>decide (x.1<=y.1):=by
  funext x y
  unfold LW
  by_cases h:x.1<=y.1
  ·rw [decide_eq_true h,decide_eq_false (by omega)];rfl
  ·rw [decide_eq_false h,decide_eq_true (by omega)];rfl
 refine this.mono ?_
 rintro v σ' ⟨rfl,h⟩
 refine ⟨rfl,?_⟩
 have h':Al 206 sQ σ0 A n c (List.mergeSort (α:=Int×Int) xs fun x y=>!decide (LW y x<0)) σ':=h
 rw [e,Fq (α:=Int×Int) (le:=fun x y=>decide (x.1<=y.1)) (fun a b c h1 h2=>decide_eq_true (Int.le_trans (of_decide_eq_true h1) (of_decide_eq_true h2))) (fun a b=>by simp only [decide_eq_true_eq];omega) (fun a ha b hb h1 h2=>key a ha b hb (Int.le_antisymm (of_decide_eq_true h1) (of_decide_eq_true h2)))] at h'
 exact h'
def orI:List Int->Int
 | []=>0
 | x::xs=>if x=0 then orI xs else x
theorem W5 {σ:Hp} {A:Option Addr} {n c:Nat} {xs:List Int} (hx:RdS [.int .i64] σ A n xs) (hl:xs.length<=4294967296):Ae Tryz.prog Sz #[.slice A n c] σ fun v σ'=>v=.int .i64 (orI xs)/\σ'=σ:=by
 refine PH _ _ _ _ _ ?_
 unfold IV
 have hn:=hx.lenI
 refine Ac fun J3 h3=>?_
 refine ⟨fun w i τ=>∃ k:Nat,w=xs.length-k/\i=k/\k<=xs.length/\τ=σ/\orI (xs.drop k)=orI xs,⟨_,0,rfl,rfl,by omega,rfl,rfl⟩,?_⟩
 rintro w i τ ⟨k,rfl,rfl,hk,rfl,he⟩ _
 refine AH (fun hlt=>?_) (fun hlt=>?_)
 ·have hkl:k<xs.length:=by omega
  refine DC hx (by omega) (by omega) ?_
  rw [List.drop_eq_getElem_cons hkl,orI] at he
  rw [BR hkl]
  refine Bg (fun hne=>Ah ⟨?_,rfl⟩) (fun h0=>AP (by omega) (Bb _ (by omega) ⟨k+1,rfl,by omega,by omega,rfl,?_⟩))
  ·rw [← he,if_neg hne]
  ·rw [← he,if_pos h0]
 ·have:k=xs.length:=by omega
  subst this
  rw [h3]
  intro _
  refine Ah ⟨?_,rfl⟩
  rw [← he,List.drop_length]
  rfl
def Vis.left (v:Vis):Int:=v.2.2.2.2.2
def LT (a b:Vis):Int:=orI [a.left-b.left,a.1-b.1,a.2.1-b.2.1]
def vle (x y:Vis):Bool:=!decide (LT y x<0)
def YF (xs:List Vis):List Vis:=M6 vle xs
theorem Oa (a b:Vis):LT a b<0↔a.left<b.left∨a.left=b.left/\(a.1<b.1∨a.1=b.1/\a.2.1<b.2.1):=by
 simp only [LT,orI]
 split
 ·split
  ·split<;>omega
  ·omega
 ·omega
theorem Qg (a b:Vis):vle a b=true↔¬ (b.left<a.left∨b.left=a.left/\(b.1<a.1∨b.1=a.1/\b.2.1<a.2.1)):=by
 unfold vle
 rw [Bool.not_eq_true',decide_eq_false_iff_not,Oa]
theorem WV (a b c:Vis) (h1:vle a b=true) (h2:vle b c=true):vle a c=true:=by rw [Qg] at *;omega
theorem WP (a b:Vis):vle a b=true∨vle b a=true:=by rw [Qg,Qg];omega
theorem XF {σ:Hp} {a b:Vis} (ha:∀ v∈[a,b],(0<=v.left/\v.left<=1000000)/\(0<=v.1/\v.1<=1000000)/\(0<=v.2.1/\v.2.1<=1000000)):Ae Tryz.prog Ef #[.agg (B8 sV a).toArray,.agg (B8 sV b).toArray] σ fun v _=>v=.int .i64 (LT a b):=by
 have h1:=ha a (by simp)
 have h2:=ha b (by simp)
 refine Nd _ _ _ _ _ _ _ _ _ _ _ _ _ _ ?_
 unfold GE
 have e1:a.left=a.2.2.2.2.2:=rfl
 have e2:b.left=b.2.2.2.2.2:=rfl
 rw [e1] at h1
 rw [e2] at h2
 refine AP (by omega) (AP (by omega) (AP (by omega) ?_))
 intro A n c σ' ho
 refine clI MP (W5 ho.RdI (by simp)) (Ah rfl)
def SortV:Prop:=∀ (σ0 σ:Hp) (A:Option Addr) (n c:Nat) (xs:List Vis),Al 59 sV σ0 A n c xs σ->xs.length<=4294967296 ->
 (∀ v∈xs,(0<=v.left/\v.left<=1000000)/\(0<=v.1/\v.1<=1000000)/\(0<=v.2.1/\v.2.1<=1000000))->(∀ x∈xs,∀ y∈xs,x.1=y.1->x.2.1=y.2.1->x=y) ->
 Ae Tryz.prog F2 #[.slice A n c,.func (.func Ef) #[] #[]] σ fun v σ'=>v=.tuple #[]/\Al 59 sV σ0 A n c (YF xs) σ'
theorem TY:SortV:=by
 intro σ0 σ A n c xs ho hl hb hT
 have h1:∀ x:TyR sV,∀ v∈B8 sV x,v.oneCell'=true:=by
  intro x v hv
  have:v∈[Value.int .i64 x.1,.int .i64 x.2.1,.int .i64 x.2.2.1,.bool x.2.2.2.1,.int .i64 x.2.2.2.2.1,.int .i64 x.2.2.2.2.2]:=hv
  simp only [List.mem_cons,List.not_mem_nil,or_false] at this
  rcases this with rfl | rfl | rfl | rfl | rfl | rfl<;>rfl
 have hc:∀ x∈xs,∀ y∈xs,Ae Tryz.prog Ef #[.agg (B8 sV x).toArray,.agg (B8 sV y).toArray] (fun _=>none) fun v _=>v=.int .i64 (LT x y):=by
  intro x hx y hy
  refine XF fun v hv=>?_
  simp only [List.mem_cons,List.not_mem_nil,or_false] at hv
  rcases hv with rfl | rfl
  ·exact hb _ hx
  ·exact hb _ hy
 have k1:∀ x∈xs,¬ LT x x<0:=fun x _=>by rw [Oa];omega
 have k2:∀ x∈xs,∀ y∈xs,∀ z∈xs,LT x y<0->LT y z<0->LT x z<0:=fun x _ y _ z _ h2 h3=>by rw [Oa] at *;omega
 have k3:∀ x∈xs,∀ y∈xs,∀ z∈xs,¬ LT x y<0->¬ LT y z<0->¬ LT x z<0:=fun x _ y _ z _ h2 h3=>by rw [Oa] at *;omega
 have k4:∀ x∈xs,∀ y∈xs,¬ LT x y<0->¬ LT y x<0->x=y:=fun x hx y hy h2 h3=>by rw [Oa] at *;exact hT x hx y hy (by omega) (by omega)
 have em:(xs:List Vis).mergeSort (fun x y=>!decide (LT y x<0))=YF xs:=Fq (le:=vle) WV WP (fun a ha b hb h1 h2=>by rw [Qg] at h1 h2;exact hT a ha b hb (by omega) (by omega))
 rw [← em]
 exact N0 (ss:=sV) (g:=Ef) YthhadkggldcolaaGreat.sortV Tryz.isAgg59 Tryz.sizeOf59 h1 LT (enters_of Tryz.func136 (by kernel_rfl) rfl) ho hl hc k1 k2 k3 k4
end Go.Proofs.YthhadkggldcolaaGreat
