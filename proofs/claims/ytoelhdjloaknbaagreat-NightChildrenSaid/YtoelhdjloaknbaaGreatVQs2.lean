/- Trimmed by wip/trim.py to what this claim rests on. -/
import Derived.Test.YtoelhdjloaknbaaGreatVQs1
namespace Go.Proofs.YtoelhdjloaknbaaGreat
open Go.RowKit Go.Shelf Go.Sort Go.Lib
def Ly (a b:Int×Int):Int:=a.1-b.1
theorem Pw (a b:Int×Int):Ly a b<0↔a.1<b.1:=by unfold Ly;omega
theorem S6:SortQ:=by
 intro σ0 σ A n c xs ho hl hb hnd
 have key:∀ x∈xs,∀ y∈xs,x.1=y.1->x=y:=by
  intro x hx y hy e
  obtain ⟨i,hi,rfl⟩:=List.getElem_of_mem hx
  obtain ⟨j,hj,rfl⟩:=List.getElem_of_mem hy
  have hpw:=List.pairwise_iff_getElem.1 hnd
  rcases Nat.lt_trichotomy i j with h | h | h
  ·have:=hpw i j (by simpa using hi) (by simpa using hj) h
   rw [List.getElem_map,List.getElem_map] at this
   exact absurd e this
  ·subst h;rfl
  ·have:=hpw j i (by simpa using hj) (by simpa using hi) h
   rw [List.getElem_map,List.getElem_map] at this
   exact absurd e.symm this
 have h1:∀ x:TyR sQ,∀ v∈BW sQ x,v.oneCell'=true:=by
  intro x v hv
  have hv:v∈[Value.int .i64 x.1,.int .i64 x.2]:=hv
  simp only [List.mem_cons,List.not_mem_nil,or_false] at hv
  rcases hv with rfl | rfl<;>rfl
 have hc:∀ x∈xs,∀ y∈xs,Ae Tryz.prog CA #[.agg (BW sQ x).toArray,.agg (BW sQ y).toArray] (fun _=>none) fun v _=>v=.int .i64 (Ly x y):=by
  intro x hx y hy
  have b1:=hb x hx
  have b2:=hb y hy
  refine Hg _ _ _ _ _ _ ?_
  unfold Cr
  exact AP (by omega) (Al rfl)
 have k1:∀ x∈xs,¬ Ly x x<0:=fun x _=>by rw [Pw];omega
 have k2:∀ x∈xs,∀ y∈xs,∀ z∈xs,Ly x y<0->Ly y z<0->Ly x z<0:=fun x _ y _ z _ h2 h3=>by rw [Pw] at *;omega
 have k3:∀ x∈xs,∀ y∈xs,∀ z∈xs,¬ Ly x y<0->¬ Ly y z<0->¬ Ly x z<0:=fun x _ y _ z _ h2 h3=>by rw [Pw] at *;omega
 have k4:∀ x∈xs,∀ y∈xs,¬ Ly x y<0->¬ Ly y x<0->x=y:=fun x hx y hy h2 h3=>by rw [Pw] at *;exact key x hx y hy (by omega)
 have:=M1 (ss:=sQ) (g:=CA) YtoelhdjloaknbaaGreat.sortQ Tryz.isAgg240 Tryz.sizeOf240 h1 Ly (enters_of Tryz.func227 (by kernel_rfl) rfl) ho hl hc k1 k2 k3 k4
 have e:(fun x y:Int×Int=>!decide (Ly y x<0))=fun x y=>decide (x.1<=y.1):=by
  funext x y
  unfold Ly
  by_cases h:x.1<=y.1
  ·rw [decide_eq_true h,decide_eq_false (by omega)];rfl
  ·rw [decide_eq_false h,decide_eq_true (by omega)];rfl
 refine this.mono ?_
 rintro v σ' ⟨rfl,h⟩
 refine ⟨rfl,?_⟩
 have h':Ak 240 sQ σ0 A n c (List.mergeSort (α:=Int×Int) xs fun x y=>!decide (Ly y x<0)) σ':=h
 rw [e,FE (α:=Int×Int) (le:=fun x y=>decide (x.1<=y.1)) (fun a b c h1 h2=>decide_eq_true (Int.le_trans (of_decide_eq_true h1) (of_decide_eq_true h2))) (fun a b=>by simp only [decide_eq_true_eq];omega) (fun a ha b hb h1 h2=>key a ha b hb (Int.le_antisymm (of_decide_eq_true h1) (of_decide_eq_true h2)))] at h'
 exact h'
def orI:List Int->Int
 | []=>0
 | x::xs=>if x=0 then orI xs else x
theorem XA {σ:Hp} {A:Option Addr} {n c:Nat} {xs:List Int} (hx:RdS [.int .i64] σ A n xs) (hl:xs.length<=4294967296):Ae Tryz.prog Ry #[.slice A n c] σ fun v σ'=>v=.int .i64 (orI xs)/\σ'=σ:=by
 refine Pk _ _ _ _ _ ?_
 unfold Jo
 have hn:=hx.lenI
 refine Af fun J3 h3=>?_
 refine ⟨fun w i τ=>∃ k:Nat,w=xs.length-k/\i=k/\k<=xs.length/\τ=σ/\orI (xs.drop k)=orI xs,⟨_,0,rfl,rfl,by omega,rfl,rfl⟩,?_⟩
 rintro w i τ ⟨k,rfl,rfl,hk,rfl,he⟩ _
 refine AD (fun hlt=>?_) (fun hlt=>?_)
 ·have hkl:k<xs.length:=by omega
  refine Io hx (by omega) (by omega) ?_
  rw [List.drop_eq_getElem_cons hkl,orI] at he
  rw [Fp hkl]
  refine BR (fun hne=>Al ⟨?_,rfl⟩) (fun h0=>AP (by omega) (AW _ (by omega) ⟨k+1,rfl,by omega,by omega,rfl,?_⟩))
  ·rw [← he,if_neg hne]
  ·rw [← he,if_pos h0]
 ·have:k=xs.length:=by omega
  subst this
  rw [h3]
  intro _
  refine Al ⟨?_,rfl⟩
  rw [← he,List.drop_length]
  rfl
def Vis.left (v:Vis):Int:=v.2.2.2.2.2
def Lz (a b:Vis):Int:=orI [a.left-b.left,a.1-b.1,a.2.1-b.2.1]
def vle (x y:Vis):Bool:=!decide (Lz y x<0)
def WB (xs:List Vis):List Vis:=Nu vle xs
theorem NB (a b:Vis):Lz a b<0↔a.left<b.left∨a.left=b.left/\(a.1<b.1∨a.1=b.1/\a.2.1<b.2.1):=by
 simp only [Lz,orI]
 split
 ·split
  ·split<;>omega
  ·omega
 ·omega
theorem PC (a b:Vis):vle a b=true↔¬ (b.left<a.left∨b.left=a.left/\(b.1<a.1∨b.1=a.1/\b.2.1<a.2.1)):=by
 unfold vle
 rw [Bool.not_eq_true',decide_eq_false_iff_not,NB]
theorem VK (a b c:Vis) (h1:vle a b=true) (h2:vle b c=true):vle a c=true:=by rw [PC] at *;omega
theorem VU (a b:Vis):vle a b=true∨vle b a=true:=by rw [PC,PC];omega
theorem Xv {σ:Hp} {a b:Vis} (ha:∀ v∈[a,b],(0<=v.left/\v.left<=1000000)/\(0<=v.1/\v.1<=1000000)/\(0<=v.2.1/\v.2.1<=1000000)):Ae Tryz.prog En #[.agg (BW sV a).toArray,.agg (BW sV b).toArray] σ fun v _=>v=.int .i64 (Lz a b):=by
 have h1:=ha a (by simp)
 have h2:=ha b (by simp)
 refine Nv _ _ _ _ _ _ _ _ _ _ _ _ _ _ ?_
 unfold Gv
 have e1:a.left=a.2.2.2.2.2:=rfl
 have e2:b.left=b.2.2.2.2.2:=rfl
 rw [e1] at h1
 rw [e2] at h2
 refine AP (by omega) (AP (by omega) (AP (by omega) ?_))
 intro A n c σ' ho
 refine clI Mn (XA ho.RdI (by simp)) (Al rfl)
def SortV:Prop:=∀ (σ0 σ:Hp) (A:Option Addr) (n c:Nat) (xs:List Vis),Ak 75 sV σ0 A n c xs σ->xs.length<=4294967296 ->
 (∀ v∈xs,(0<=v.left/\v.left<=1000000)/\(0<=v.1/\v.1<=1000000)/\(0<=v.2.1/\v.2.1<=1000000))->(∀ x∈xs,∀ y∈xs,x.1=y.1->x.2.1=y.2.1->x=y) ->
 Ae Tryz.prog F5 #[.slice A n c,.func (.func En) #[] #[]] σ fun v σ'=>v=.tuple #[]/\Ak 75 sV σ0 A n c (WB xs) σ'
theorem Ss:SortV:=by
 intro σ0 σ A n c xs ho hl hb hT
 have h1:∀ x:TyR sV,∀ v∈BW sV x,v.oneCell'=true:=by
  intro x v hv
  have:v∈[Value.int .i64 x.1,.int .i64 x.2.1,.int .i64 x.2.2.1,.bool x.2.2.2.1,.int .i64 x.2.2.2.2.1,.int .i64 x.2.2.2.2.2]:=hv
  simp only [List.mem_cons,List.not_mem_nil,or_false] at this
  rcases this with rfl | rfl | rfl | rfl | rfl | rfl<;>rfl
 have hc:∀ x∈xs,∀ y∈xs,Ae Tryz.prog En #[.agg (BW sV x).toArray,.agg (BW sV y).toArray] (fun _=>none) fun v _=>v=.int .i64 (Lz x y):=by
  intro x hx y hy
  refine Xv fun v hv=>?_
  simp only [List.mem_cons,List.not_mem_nil,or_false] at hv
  rcases hv with rfl | rfl
  ·exact hb _ hx
  ·exact hb _ hy
 have k1:∀ x∈xs,¬ Lz x x<0:=fun x _=>by rw [NB];omega
 have k2:∀ x∈xs,∀ y∈xs,∀ z∈xs,Lz x y<0->Lz y z<0->Lz x z<0:=fun x _ y _ z _ h2 h3=>by rw [NB] at *;omega
 have k3:∀ x∈xs,∀ y∈xs,∀ z∈xs,¬ Lz x y<0->¬ Lz y z<0->¬ Lz x z<0:=fun x _ y _ z _ h2 h3=>by rw [NB] at *;omega
 have k4:∀ x∈xs,∀ y∈xs,¬ Lz x y<0->¬ Lz y x<0->x=y:=fun x hx y hy h2 h3=>by rw [NB] at *;exact hT x hx y hy (by omega) (by omega)
 have em:(xs:List Vis).mergeSort (fun x y=>!decide (Lz y x<0))=WB xs:=FE (le:=vle) VK VU (fun a ha b hb h1 h2=>by rw [PC] at h1 h2;exact hT a ha b hb (by omega) (by omega))
 rw [← em]
 exact M1 (ss:=sV) (g:=En) YtoelhdjloaknbaaGreat.sortV Tryz.isAgg75 Tryz.sizeOf75 h1 Lz (enters_of Tryz.func171 (by kernel_rfl) rfl) ho hl hc k1 k2 k3 k4
end Go.Proofs.YtoelhdjloaknbaaGreat
