/- Trimmed by wip/trim.py to what this claim rests on. -/
import Derived.Test.YthhadkggldcolaaGreatYQs1
namespace Go.Proofs.YthhadkggldcolaaGreat
open Go.RowKit Go.Shelf Go.Sort Go.Lib
def Lq (a b:Int×Int):Int:=a.1-b.1
theorem PG (a b:Int×Int):Lq a b<0↔a.1<b.1:=by unfold Lq;omega
theorem TJ:SortQ:=by
 intro σ0 σ A n c xs ho hl hb hnd
 have key:∀ x∈xs,∀ y∈xs,x.1=y.1->x=y:=by
  intro x hx y hy e
  obtain ⟨i,hi,rfl⟩:=List.getElem_of_mem hx
  obtain ⟨j,hj,rfl⟩:=List.getElem_of_mem hy
  have hpw:=List.pairwise_iff_getElem.1 hnd
  rcases Nat.lt_trichotomy i j with h | h | h
  ·have:=hpw i j (by simpa using hi) (by simpa using hj) h
   rw [List.getElem_map,List.getElem_map] at this
   exact absurd e this
  ·subst h;rfl
  ·have:=hpw j i (by simpa using hj) (by simpa using hi) h
   rw [List.getElem_map,List.getElem_map] at this
   exact absurd e.symm this
 have h1:∀ x:TyR sQ,∀ v∈BL sQ x,v.oneCell'=true:=by
  intro x v hv
  have hv:v∈[Value.int .i64 x.1,.int .i64 x.2]:=hv
  simp only [List.mem_cons,List.not_mem_nil,or_false] at hv
  rcases hv with rfl | rfl<;>rfl
 have hc:∀ x∈xs,∀ y∈xs,Ae Tryz.prog Cw #[.agg (BL sQ x).toArray,.agg (BL sQ y).toArray] (fun _=>none) fun v _=>v=.int .i64 (Lq x y):=by
  intro x hx y hy
  have b1:=hb x hx
  have b2:=hb y hy
  refine Ht _ _ _ _ _ _ ?_
  unfold Ct
  exact AU (by omega) (Ak rfl)
 have k1:∀ x∈xs,¬ Lq x x<0:=fun x _=>by rw [PG];omega
 have k2:∀ x∈xs,∀ y∈xs,∀ z∈xs,Lq x y<0->Lq y z<0->Lq x z<0:=fun x _ y _ z _ h2 h3=>by rw [PG] at *;omega
 have k3:∀ x∈xs,∀ y∈xs,∀ z∈xs,¬ Lq x y<0->¬ Lq y z<0->¬ Lq x z<0:=fun x _ y _ z _ h2 h3=>by rw [PG] at *;omega
 have k4:∀ x∈xs,∀ y∈xs,¬ Lq x y<0->¬ Lq y x<0->x=y:=fun x hx y hy h2 h3=>by rw [PG] at *;exact key x hx y hy (by omega)
 have:=MS (ss:=sQ) (g:=Cw) YthhadkggldcolaaGreat.sortQ Tryz.isAgg206 Tryz.sizeOf206 h1 Lq (enters_of Tryz.func199 (by kernel_rfl) rfl) ho hl hc k1 k2 k3 k4
 have e:(fun x y:Int×Int=>!decide (Lq y x<0))=fun x y=>decide (x.1<=y.1):=by
  funext x y
  unfold Lq
  by_cases h:x.1<=y.1
  ·rw [decide_eq_true h,decide_eq_false (by omega)];rfl
  ·rw [decide_eq_false h,decide_eq_true (by omega)];rfl
 refine this.mono ?_
 rintro v σ' ⟨rfl,h⟩
 refine ⟨rfl,?_⟩
 have h':Aj 206 sQ σ0 A n c (List.mergeSort (α:=Int×Int) xs fun x y=>!decide (Lq y x<0)) σ':=h
 rw [e,Fs (α:=Int×Int) (le:=fun x y=>decide (x.1<=y.1)) (fun a b c h1 h2=>decide_eq_true (Int.le_trans (of_decide_eq_true h1) (of_decide_eq_true h2))) (fun a b=>by simp only [decide_eq_true_eq];omega) (fun a ha b hb h1 h2=>key a ha b hb (Int.le_antisymm (of_decide_eq_true h1) (of_decide_eq_true h2)))] at h'
 exact h'
def orI:List Int->Int
 | []=>0
 | x::xs=>if x=0 then orI xs else x
theorem X4 {σ:Hp} {A:Option Addr} {n c:Nat} {xs:List Int} (hx:RdS [.int .i64] σ A n xs) (hl:xs.length<=4294967296):Ae Tryz.prog RN #[.slice A n c] σ fun v σ'=>v=.int .i64 (orI xs)/\σ'=σ:=by
 refine Pv _ _ _ _ _ ?_
 unfold Jg
 have hn:=hx.lenI
 refine Ag fun J3 h3=>?_
 refine ⟨fun w i τ=>∃ k:Nat,w=xs.length-k/\i=k/\k<=xs.length/\τ=σ/\orI (xs.drop k)=orI xs,⟨_,0,rfl,rfl,by omega,rfl,rfl⟩,?_⟩
 rintro w i τ ⟨k,rfl,rfl,hk,rfl,he⟩ _
 refine AD (fun hlt=>?_) (fun hlt=>?_)
 ·have hkl:k<xs.length:=by omega
  refine GP hx (by omega) (by omega) ?_
  rw [List.drop_eq_getElem_cons hkl,orI] at he
  rw [CD hkl]
  refine BA (fun hne=>Ak ⟨?_,rfl⟩) (fun h0=>AU (by omega) (Bf _ (by omega) ⟨k+1,rfl,by omega,by omega,rfl,?_⟩))
  ·rw [← he,if_neg hne]
  ·rw [← he,if_pos h0]
 ·have:k=xs.length:=by omega
  subst this
  rw [h3]
  intro _
  refine Ak ⟨?_,rfl⟩
  rw [← he,List.drop_length]
  rfl
def Vis.left (v:Vis):Int:=v.2.2.2.2.2
def Lp (a b:Vis):Int:=orI [a.left-b.left,a.1-b.1,a.2.1-b.2.1]
def vle (x y:Vis):Bool:=!decide (Lp y x<0)
def LI (xs:List Vis):List Vis:=Ns vle xs
theorem MO (a b:Vis):Lp a b<0↔a.left<b.left∨a.left=b.left/\(a.1<b.1∨a.1=b.1/\a.2.1<b.2.1):=by
 simp only [Lp,orI]
 split
 ·split
  ·split<;>omega
  ·omega
 ·omega
theorem K2 (a b:Vis):vle a b=true↔¬ (b.left<a.left∨b.left=a.left/\(b.1<a.1∨b.1=a.1/\b.2.1<a.2.1)):=by
 unfold vle
 rw [Bool.not_eq_true',decide_eq_false_iff_not,MO]
theorem Q3 (a b c:Vis) (h1:vle a b=true) (h2:vle b c=true):vle a c=true:=by rw [K2] at *;omega
theorem QW (a b:Vis):vle a b=true∨vle b a=true:=by rw [K2,K2];omega
theorem Xf {σ:Hp} {a b:Vis} (ha:∀ v∈[a,b],(0<=v.left/\v.left<=1000000)/\(0<=v.1/\v.1<=1000000)/\(0<=v.2.1/\v.2.1<=1000000)):Ae Tryz.prog Ej #[.agg (BL sV a).toArray,.agg (BL sV b).toArray] σ fun v _=>v=.int .i64 (Lp a b):=by
 have h1:=ha a (by simp)
 have h2:=ha b (by simp)
 refine Ny _ _ _ _ _ _ _ _ _ _ _ _ _ _ ?_
 unfold F2
 have e1:a.left=a.2.2.2.2.2:=rfl
 have e2:b.left=b.2.2.2.2.2:=rfl
 rw [e1] at h1
 rw [e2] at h2
 refine AU (by omega) (AU (by omega) (AU (by omega) ?_))
 intro A n c σ' ho
 refine clI Mq (X4 ho.RdI (by simp)) (Ak rfl)
def SortV:Prop:=∀ (σ0 σ:Hp) (A:Option Addr) (n c:Nat) (xs:List Vis),Aj 59 sV σ0 A n c xs σ->xs.length<=4294967296 ->
 (∀ v∈xs,(0<=v.left/\v.left<=1000000)/\(0<=v.1/\v.1<=1000000)/\(0<=v.2.1/\v.2.1<=1000000))->(∀ x∈xs,∀ y∈xs,x.1=y.1->x.2.1=y.2.1->x=y) ->
 Ae Tryz.prog FT #[.slice A n c,.func (.func Ej) #[] #[]] σ fun v σ'=>v=.tuple #[]/\Aj 59 sV σ0 A n c (LI xs) σ'
theorem TD:SortV:=by
 intro σ0 σ A n c xs ho hl hb hT
 have h1:∀ x:TyR sV,∀ v∈BL sV x,v.oneCell'=true:=by
  intro x v hv
  have:v∈[Value.int .i64 x.1,.int .i64 x.2.1,.int .i64 x.2.2.1,.bool x.2.2.2.1,.int .i64 x.2.2.2.2.1,.int .i64 x.2.2.2.2.2]:=hv
  simp only [List.mem_cons,List.not_mem_nil,or_false] at this
  rcases this with rfl | rfl | rfl | rfl | rfl | rfl<;>rfl
 have hc:∀ x∈xs,∀ y∈xs,Ae Tryz.prog Ej #[.agg (BL sV x).toArray,.agg (BL sV y).toArray] (fun _=>none) fun v _=>v=.int .i64 (Lp x y):=by
  intro x hx y hy
  refine Xf fun v hv=>?_
  simp only [List.mem_cons,List.not_mem_nil,or_false] at hv
  rcases hv with rfl | rfl
  ·exact hb _ hx
  ·exact hb _ hy
 have k1:∀ x∈xs,¬ Lp x x<0:=fun x _=>by rw [MO];omega
 have k2:∀ x∈xs,∀ y∈xs,∀ z∈xs,Lp x y<0->Lp y z<0->Lp x z<0:=fun x _ y _ z _ h2 h3=>by rw [MO] at *;omega
 have k3:∀ x∈xs,∀ y∈xs,∀ z∈xs,¬ Lp x y<0->¬ Lp y z<0->¬ Lp x z<0:=fun x _ y _ z _ h2 h3=>by rw [MO] at *;omega
 have k4:∀ x∈xs,∀ y∈xs,¬ Lp x y<0->¬ Lp y x<0->x=y:=fun x hx y hy h2 h3=>by rw [MO] at *;exact hT x hx y hy (by omega) (by omega)
 have em:(xs:List Vis).mergeSort (fun x y=>!decide (Lp y x<0))=LI xs:=Fs (le:=vle) Q3 QW (fun a ha b hb h1 h2=>by rw [K2] at h1 h2;exact hT a ha b hb (by omega) (by omega))
 rw [← em]
 exact MS (ss:=sV) (g:=Ej) YthhadkggldcolaaGreat.sortV Tryz.isAgg59 Tryz.sizeOf59 h1 Lp (enters_of Tryz.func136 (by kernel_rfl) rfl) ho hl hc k1 k2 k3 k4
end Go.Proofs.YthhadkggldcolaaGreat
