/- What this claim rests on. -/
import Derived.Test.YtoelhdjloaknbaaGreatVNd1
import Derived.Test.YtoelhdjloaknbaaGreatVNe5
import Derived.Test.YtoelhdjloaknbaaGreatVB17
namespace Go.Proofs.YtoelhdjloaknbaaGreat
open Go.RowKit Go.Proofs.Tryz
def swp2 (xs:List Int) (j:Nat):List Int:=(xs.set (j+1) (gt xs j)).set j (gt xs (j+1:Nat))
def L1 (cf:Int->Int->Int):Nat->List Int->List Int
 | 0,xs=>xs
 | j+1,xs=>if cf (gt xs (j+1:Nat)) (gt xs j)<0 then L1 cf j (swp2 xs j) else xs
def H3 (cf:Int->Int->Int):Nat->List Int->List Int
 | 0,xs=>xs
 | k+1,xs=>L1 cf k (H3 cf k xs)
theorem Mx {xs:List Int} {j:Nat}:(swp2 xs j).length=xs.length:=by simp [swp2]
theorem Uh {cf:Int->Int->Int}:∀ (j:Nat) (xs:List Int),(L1 cf j xs).length=xs.length
 | 0,_=>rfl
 | j+1,xs=>by
  unfold L1
  split
  ·rw [Uh j,Mx]
  ·rfl
theorem W8 {cf:Int->Int->Int} {xs:List Int}:∀ k:Nat,(H3 cf k xs).length=xs.length
 | 0=>rfl
 | k+1=>by unfold H3;rw [Uh,W8 k]
def QY (P:Int->Prop) (xs:List Int):Prop:=∀ i:Nat,i<xs.length->P (gt xs i)
theorem Aad {xs:List Int} {i c:Nat} {v:Int} (hi:i<xs.length):gt (xs.set i v) c=if c=i then v else gt xs c:=by
 unfold gt
 simp only [Int.toNat_natCast,List.getD_eq_getElem?_getD,List.getElem?_set]
 by_cases e:i=c
 ·subst e
  simp [hi]
 ·rw [if_neg e,if_neg (fun h=>e h.symm)]
theorem QY.swp2 {P:Int->Prop} {xs:List Int} (h:QY P xs) {j:Nat} (hj:j+1<xs.length):QY P (swp2 xs j):=by
 intro i hi
 rw [Mx] at hi
 unfold Go.Proofs.YtoelhdjloaknbaaGreat.swp2
 rw [Aad (by simp;omega),Aad (by omega)]
 split
 ·exact h _ hj
 ·split
  ·exact h _ (by omega)
  ·exact h _ hi
def AfQ (f:Value) (cf:Int->Int->Int) (P:Int->Prop) (s0:Hp):Prop:=∀ τ,Hp.Sub s0 τ->∀ a b,P a->P b->∀ K:Int->Hp->Prop,K (cf a b) τ->cl prog f #[aD a,aD b] τ fun v σ'=>∃ t:Int,(v=aD t/\K t σ')
theorem XY {s0 σ:Hp} {A:aA} {n c:Nat} {xs:List Int} {f:Value} {cf:Int->Int->Int} {P:Int->Prop} (hf:AfQ f cf P s0) (hP:QY P xs) (ho:Aj 3 aM s0 A n c xs σ) (hl:xs.length<=4294967296):
  Af prog 147 #[aN A n c,aD 0,aD xs.length,f] σ fun _ σ'=>Aj 3 aM s0 A n c (H3 cf (max xs.length 1) xs) σ':=by
 apply DT
 unfold BS
 refine AQ (by omega) ?_
 refine ⟨fun m i σ'=>∃ k:Nat,m=max xs.length 1-k/\i=k/\1<=k/\k<=max xs.length 1/\QY P (H3 cf k xs)/\∃ s1,Aj 3 aM s0 A n c (H3 cf k xs) s1/\Hp.Sub s1 σ',⟨_,1,rfl,rfl,by omega,by omega,hP,σ,ho,Hp.Sub.refl _⟩,?_⟩
 rintro m i σ' ⟨k,rfl,rfl,hk1,hk,hPk,s1,ho1,hs1⟩ _
 refine Az (fun hlt=>?_) (fun hlt=>?_)
 ·have hkl:k<xs.length:=by omega
  have hlen:=W8 (cf:=cf) (xs:=xs) k
  refine Ad fun J10 h10=>?_
  have k10:∀ ys σ',ys=H3 cf (k+1) xs->QY P ys->(∃ s1,Aj 3 aM s0 A n c ys s1/\Hp.Sub s1 σ')->J10 σ':=by
   rintro ys σ' rfl hP h
   rw [h10]
   intro _
   exact AQ (by omega) (AX _ (by omega) ⟨k+1,rfl,rfl,by omega,by omega,hP,h⟩)
  rw [H3] at k10
  generalize H3 cf k xs=Z at *
  refine ⟨fun m i σ'=>∃ (j:Nat) (ys:List Int),m=j/\i=j/\j<xs.length/\ys.length=xs.length/\L1 cf j ys=L1 cf k Z/\QY P ys/\∃ s1,Aj 3 aM s0 A n c ys s1/\Hp.Sub s1 σ',⟨_,k,Z,rfl,rfl,hkl,hlen,rfl,hPk,s1,ho1,hs1⟩,?_⟩
  rintro m i σ' ⟨j,ys,rfl,rfl,hj,hyl,hins,hPy,σ2,ho2,hs2⟩ _
  refine Ad fun J21 h21=>Ad fun J41 h41=>?_
  have hrd:RdS aM σ' A n ys:=ho2.rd.sub hs2
  have hn:n=xs.length:=by have:=hrd.lenI;omega
  cases m with
  | zero=>
   refine Az (fun h=>by omega) (fun _=>?_)
   rw [h41]
   exact fun _=>AeQ (k10 _ _ hins hPy ⟨σ2,ho2,hs2⟩)
  | succ j=>
   have e1:((j+1:Nat):Int)-1=(j:Nat):=by omega
   refine Az (fun _=>?_) (fun h=>by omega)
   refine Ch hrd (by omega) (by omega) (AQ (by omega) ?_)
   rw [e1]
   refine Ch hrd (by omega) (by omega) (hf _ (ho2.sub.trans hs2) _ _ (hPy _ (by omega)) (hPy _ (by omega)) _ ?_)
   rw [h41]
   intro _
   refine Az (fun hc=>?_) (fun hc=>k10 ys _ ?_ hPy ⟨σ2,ho2,hs2⟩)
   ·rw [h21]
    intro _
    refine AQ (by omega) (AQ (by omega) ?_)
    rw [e1]
    refine Ch hrd (by omega) (by omega) (Ch hrd (by omega) (by omega) ?_)
    refine ho2.ix_stI hs2 (by omega) (by omega) fun s3 t3 ho3 hs3=>?_
    refine ho3.ix_stI hs3 (by omega) (by simp;omega) fun s4 t4 ho4 hs4=>?_
    refine AQ (by omega) (AX j (by omega) ⟨j,swp2 ys j,rfl,by omega,by omega,by rw [Mx,hyl],?_,hPy.swp2 (by omega),s4,?_,hs4⟩)
    ·rw [← hins,L1,if_pos hc]
    ·simpa [swp2] using ho4
   ·rw [← hins,L1,if_neg hc]
 ·have:k=max xs.length 1:=by omega
  rw [this] at ho1
  exact BL hs1 ho1
theorem WP {s0 σ:Hp} {A:aA} {n c:Nat} {xs:List Int} {f:Value} {cf:Int->Int->Int} {P:Int->Prop} (hf:AfQ f cf P s0) (hP:QY P xs) (ho:Aj 3 aM s0 A n c xs σ) (hl:xs.length<=19):
  Af prog 47 #[aN A n c,f] σ fun _ σ'=>Aj 3 aM s0 A n c (H3 cf (max xs.length 1) xs) σ':=by
 apply FP
 unfold Cp
 have hn:n=xs.length:=ho.len
 subst hn
 refine Bd (aW 90) (R:=fun _ σ'=>Aj 3 aM s0 A xs.length c (H3 cf (max xs.length 1) xs) σ') ?_ fun v σ' h=>Ai h
 apply F7
 unfold Cv
 refine Ad fun J3 h3=>?_
 refine ⟨fun m i j σ'=>i=0/\j=20/\σ'=σ,⟨0,rfl,rfl,rfl⟩,?_⟩
 rintro m i j σ' ⟨rfl,rfl,rfl⟩ _
 refine Az (fun h=>by omega) (fun _=>?_)
 rw [h3]
 intro _
 refine Bd (aW 147) (XY hf hP ho (by omega)) fun v σ2 h2=>?_
 refine ⟨fun m i σ'=>i=20/\σ'=σ2,⟨0,rfl,rfl⟩,?_⟩
 rintro m i σ' ⟨rfl,rfl⟩ _
 exact Az (fun h=>by omega) (fun _=>Ai h2)
def slt (kf:Int->Int) (a b:Int):Prop:=kf a<kf b∨(kf a=kf b/\a<b)
theorem AaH {cf:Int->Int->Int} {kf:Int->Int} {P:Int->Prop} (hcf:∀ a b,P a->P b->(cf a b<0↔kf a<kf b)):∀ (n:Nat) (A:List Int) (x:Int) (R:List Int),A.length=n->A.Pairwise (slt kf)->(∀ a∈A,a<x/\P a)->P x ->
  ∃ B C,A=B++C/\L1 cf A.length (A++x::R)=B++x::(C++R)/\(∀ b∈B,kf b<=kf x)/\∀ c∈C,kf x<kf c:=by
 intro n
 induction n with
 | zero=>
  intro A x R hA _ _ _
  have:A=[]:=List.eq_nil_of_length_eq_zero hA
  subst this
  exact ⟨[],[],rfl,rfl,fun b hb=>(by cases hb),fun c hc=>(by cases hc)⟩
 | succ n ih=>
  intro A x R hA hs hP hx
  obtain ⟨A',y,rfl⟩:∃ A' y,A=A'++[y]:=by
   rcases List.eq_nil_or_concat A with rfl | ⟨A',y,h⟩
   ·simp at hA
   ·exact ⟨A',y,by simpa using h⟩
  have hA':A'.length=n:=by simp at hA;omega
  have hs':=List.pairwise_append.1 hs
  have hy:=hP y (by simp)
  have e1:(A'++[y])++x::R=A'++y::x::R:=by simp
  have e2:(A'++[y]).length=A'.length+1:=by simp
  have g1:gt (A'++y::x::R) A'.length=y:=QL
  have g2:gt (A'++y::x::R) ((A'.length+1:Nat):Int)=x:=by
   have:=QL (A:=A'++[y]) (B:=R) (x:=x)
   rw [e1,e2] at this
   exact this
  rw [e1,e2,L1,g1,g2]
  have hc:=hcf x y hx hy.2
  split
  ·rename_i hlt
   have es:swp2 (A'++y::x::R) A'.length=A'++x::y::R:=by
    unfold swp2
    rw [g1,g2,List.set_append_right _ _ (by omega),List.set_append_right _ _ (by simp)]
    simp
   rw [es]
   obtain ⟨B,C,rfl,h1,h2,h3⟩:=ih A' x (y::R) hA' hs'.1 (fun a ha=>hP a (List.mem_append_left _ ha)) hx
   refine ⟨B,C++[y],by simp,by rw [h1];simp,h2,fun c hc'=>?_⟩
   rcases List.mem_append.1 hc' with h | h
   ·exact h3 c h
   ·rw [List.mem_singleton.1 h];exact hc.1 hlt
  ·rename_i hlt
   refine ⟨A'++[y],[],by simp,by simp,fun b hb=>?_,fun c hc=>(by cases hc)⟩
   have hxy:kf y<=kf x:=by
    rcases Int.lt_or_le (kf x) (kf y) with h | h
    ·exact absurd (hc.2 h) hlt
    ·exact h
   rcases List.mem_append.1 hb with h | h
   ·have:=hs'.2.2 b h y (by simp)
    unfold slt at this
    omega
   ·rw [List.mem_singleton.1 h];exact hxy
def idl (n:Nat):List Int:=(List.range n).map fun i:Nat=>(i:Int)
theorem XH {n k:Nat} (h:k<n):(idl n).drop k=(k:Int)::(idl n).drop (k+1):=by
 have hl:k<(idl n).length:=by simpa [idl] using h
 rw [List.drop_eq_getElem_cons hl]
 congr 1
 simp [idl]
theorem VJ {cf:Int->Int->Int} {kf:Int->Int} {n:Nat} (hcf:∀ a b:Int,(0<=a/\a<n)->(0<=b/\b<n)->(cf a b<0↔kf a<kf b)):∀ k,k<=n->∃ S,H3 cf k (idl n)=S++(idl n).drop k/\S.length=k/\S.Pairwise (slt kf)/\∀ a,a∈S↔0<=a/\a<k
 | 0,_=>⟨[],by simp [H3],rfl,List.Pairwise.nil,fun a=>⟨fun h=>(by cases h),fun h=>by omega⟩⟩
 | k+1,hk=>by
  obtain ⟨S,h1,h2,h3,h4⟩:=VJ hcf k (by omega)
  obtain ⟨B,C,hS,hJ,hB,hC⟩:=AaH (P:=fun a=>0<=a/\a<n) (fun a b=>hcf a b) k S k ((idl n).drop (k+1)) h2 h3 (fun a ha=>by have:=(h4 a).1 ha;omega) (by omega)
  refine ⟨B++(k:Int)::C,?_,?_,?_,fun a=>?_⟩
  ·rw [H3,h1,XH (by omega)]
   rw [h2] at hJ
   rw [hJ]
   simp
  ·have:=congrArg List.length hS
   simp at this ⊢
   omega
  ·rw [hS] at h3
   obtain ⟨p1,p2,p3⟩:=List.pairwise_append.1 h3
   refine List.pairwise_append.2 ⟨p1,List.pairwise_cons.2 ⟨fun c hc=>.inl (hC c hc),p2⟩,fun b hb c hc=>?_⟩
   rcases List.mem_cons.1 hc with rfl | hc
   ·have:=hB b hb
    have hlt:=((h4 b).1 (by rw [hS];exact List.mem_append_left _ hb)).2
    unfold slt
    omega
   ·exact p3 b hb c hc
  ·have e:a∈B++(k:Int)::C↔a∈S∨a=k:=by
    rw [hS]
    simp only [List.mem_append,List.mem_cons]
    constructor
    ·rintro (h | h | h)
     ·exact .inl (.inl h)
     ·exact .inr h
     ·exact .inl (.inr h)
    ·rintro ((h | h) | h)
     ·exact .inl h
     ·exact .inr (.inr h)
     ·exact .inr (.inl h)
   rw [e,h4 a]
   omega
theorem Ym {cf:Int->Int->Int} {kf:Int->Int} {n:Nat} (hcf:∀ a b:Int,(0<=a/\a<n)->(0<=b/\b<n)->(cf a b<0↔kf a<kf b)):(H3 cf (max (idl n).length 1) (idl n)).Pairwise (slt kf)/\(H3 cf (max (idl n).length 1) (idl n)).length=n/\∀ a,a∈H3 cf (max (idl n).length 1) (idl n)↔0<=a/\a<n:=by
 have hl:(idl n).length=n:=by simp [idl]
 rw [hl]
 rcases Nat.eq_zero_or_pos n with h0 | h0
 ·subst h0
  have:H3 cf (max 0 1) (idl 0)=[]:=rfl
  rw [this]
  exact ⟨List.Pairwise.nil,rfl,fun a=>⟨fun h=>(by cases h),fun h=>by omega⟩⟩
 ·obtain ⟨S,h1,h2,h3,h4⟩:=VJ hcf n (Nat.le_refl _)
  have hd:(idl n).drop n=[]:=by simp [idl]
  rw [hd,List.append_nil] at h1
  rw [show max n 1=n by omega,h1]
  exact ⟨h3,h2,h4⟩
def Cq (F:List Bool):List Nat:=(List.range F.length).filter fun j=>F.getD j false
def FM (G:List Grp) (F:List Bool):List Grp:=(Cq F).map fun j:Nat=>gd G j
def nIz (l:List Nat):List Int:=l.map fun j:Nat=>(j:Int)
def stN (S:List Grp) (hs:List Int) (t:Int):Nat->Int
 | 0=>0
 | k+1=>stN S hs t k+if gt hs (k:Nat)<0∨t<=gt hs (k:Nat) then (gd S (k:Nat)).size else 0
def Gal.admN (g:Gal) (G:List Grp) (F:List Bool) (i:Nat):Int:=(gd G (i:Nat)).size+stN (FM G F) (g.homes (FM G F)) (gd G (i:Nat)).came (FM G F).length
def Gal.adm1 (g:Gal) (G:List Grp) (m:Int) (F:List Bool) (i:Int):List Bool:=F.set i.toNat (decide (g.admN G F i.toNat<=m))
def UW (G:List Grp) (a b:Int):Int:=(gd G a).came-(gd G b).came
def N8 (G:List Grp):List Int:=H3 (UW G) (max (idl G.length).length 1) (idl G.length)
def Gal.admF (g:Gal) (G:List Grp) (m:Int) (k:Nat):List Bool:=((N8 G).take k).foldl (g.adm1 G m) (List.replicate G.length false)
def Gal.admE (g:Gal) (G:List Grp) (m:Int):Int:=if g.chkG G=0 then if Inn m 0 10000=true then 0 else 1 else g.chkG G
def Gal.admits (g:Gal) (G:List Grp) (m:Int):List Int:=if g.admE G m=0 then nIz (Cq (g.admF G m G.length)) else []
section
variable {g:Gal} {G:List Grp} {m:Int}
theorem JQ:(N8 G).Pairwise (slt fun a=>(gd G a).came)/\(N8 G).length=G.length/\∀ a,a∈N8 G↔0<=a/\a<G.length:=by
 refine Ym fun a b _ _=>?_
 unfold UW
 omega
theorem Wj {k:Nat} (hk:k<G.length):∃ i:Nat,i<G.length/\gt (N8 G) k=i/\¬ (i:Int)∈(N8 G).take k:=by
 obtain ⟨h1,h2,h3⟩:=JQ (G:=G)
 have hk':k<(N8 G).length:=by omega
 have hm:=(h3 _).1 (List.getElem_mem hk')
 refine ⟨((N8 G)[k]).toNat,by omega,by rw [BJ hk'];omega,?_⟩
 rw [Int.toNat_of_nonneg hm.1]
 intro hc
 obtain ⟨j,hj,e⟩:=List.getElem_of_mem hc
 rw [List.length_take] at hj
 rw [List.getElem_take] at e
 have:=List.pairwise_iff_getElem.1 h1 j k (by omega) hk' (by omega)
 rw [e] at this
 unfold slt at this
 omega
theorem NG {k:Nat} (hk:k<G.length):g.admF G m (k+1)=g.adm1 G m (g.admF G m k) (gt (N8 G) k):=by
 have hk':k<(N8 G).length:=by rw [(JQ (G:=G)).2.1];exact hk
 unfold Gal.admF
 rw [NI hk',BJ hk']
theorem XZ {w:List Bool} {i j:Nat} {b:Bool}:(w.set i b).getD j false=if i=j/\j<w.length then b else w.getD j false:=by
 rw [List.getD_eq_getElem?_getD,List.getD_eq_getElem?_getD,List.getElem?_set]
 by_cases e:i=j
 ·subst e
  by_cases h:i<w.length
  ·simp [h]
  ·simp [h]
 ·simp [e]
theorem Qf:∀ k,k<=G.length->(g.admF G m k).length=G.length
 | 0,_=>by simp [Gal.admF]
 | k+1,hk=>by
  rw [NG (by omega)]
  unfold Gal.adm1
  rw [List.length_set]
  exact Qf k (by omega)
theorem Aas {l:List Int} {k:Nat} {x:Int} (hk:k<l.length):x∈l.take (k+1)↔x∈l.take k∨x=gt l k:=by
 rw [List.take_succ_eq_append_getElem hk,List.mem_append,List.mem_singleton,BJ hk]
theorem T6:∀ k,k<=G.length->∀ j:Nat,¬ (j:Int)∈(N8 G).take k->(g.admF G m k).getD j false=false
 | 0,_,j,_=>by
  show (List.replicate G.length false).getD j false=false
  rw [List.getD_eq_getElem?_getD,List.getElem?_replicate]
  split<;>rfl
 | k+1,hk,j,hj=>by
  have hk':k<(N8 G).length:=by rw [(JQ (G:=G)).2.1];omega
  rw [Aas hk'] at hj
  obtain ⟨i,_,e,_⟩:=Wj (G:=G) (k:=k) (by omega)
  rw [NG (by omega),e]
  unfold Gal.adm1
  rw [XZ,if_neg fun x=>hj (.inr (by rw [e];omega))]
  exact T6 k (by omega) j fun x=>hj (.inl x)
theorem Hi {F:List Bool} {j:Nat}:j∈Cq F↔j<F.length/\F.getD j false=true:=by
 unfold Cq
 rw [List.mem_filter,List.mem_range]
theorem Mr {F:List Bool}:(Cq F).Pairwise (· < ·):=List.Pairwise.sublist List.filter_sublist List.pairwise_lt_range
theorem M3 {F:List Bool}:(Cq F).length<=F.length:=by
 have:=List.length_filter_le (fun j=>F.getD j false) (List.range F.length)
 rw [List.length_range] at this
 exact this
theorem K1 {l:List Nat}:(nIz l).length=l.length:=by simp [nIz]
theorem AfG {l:List Nat} {k:Nat} (h:k<l.length):gt (nIz l) k=(l[k]:Nat):=by
 rw [BJ (by rw [K1];exact h)]
 unfold nIz
 rw [List.getElem_map]
theorem Aaq {F:List Bool} {i:Nat} (h:F.getD i false=false):F.set i false=F:=by
 refine List.ext_getElem (by simp) fun j h1 h2=>?_
 rw [List.getElem_set]
 split
 ·rename_i e
  subst e
  have:F.getD i false=F[i]:=by simp [List.getD,h2]
  rw [← this,h]
 ·rfl
theorem AbI {F:List Bool} {i:Nat} (hi:i<F.length) (h:F.getD i false=false):(Cq (F.set i true)).Perm (Cq F++[i]):=by
 refine (List.perm_ext_iff_of_nodup ?_ ?_).2 fun j=>?_
 ·exact Mr.imp fun h=>Nat.ne_of_lt h
 ·rw [List.nodup_append]
  refine ⟨Mr.imp fun h=>Nat.ne_of_lt h,by simp,fun a ha b hb=>?_⟩
  rw [List.mem_singleton] at hb
  subst hb
  intro e
  subst e
  rw [(Hi.1 ha).2] at h
  cases h
 ·rw [List.mem_append,Hi,Hi,List.mem_singleton,List.length_set,XZ]
  by_cases e:i=j
  ·subst e
   rw [if_pos ⟨rfl,hi⟩]
   simp [hi]
  ·rw [if_neg fun x=>e x.1]
   constructor
   ·exact fun x=>.inl x
   ·rintro (x | x)
    ·exact x
    ·exact absurd x.symm e
theorem Adt {l l':List Nat} (h:l.Perm l'):(nIz l).Perm (nIz l'):=h.map _
theorem AaR {X:List Int} {F:List Bool} (h:X.Perm (nIz (Cq F))):JY X=nIz (Cq F):=by
 have hs:(nIz (Cq F)).Pairwise (· < ·):=by
  unfold nIz
  rw [List.pairwise_map]
  exact Mr.imp fun h=>by omega
 refine HQ (R:=fun a b=>a<=b) ((CR _ X).trans h) ?_ (hs.imp fun h=>Int.le_of_lt h) fun a _ b _ h1 h2=>by omega
 have:=E6 (le:=fun x y:Int=>decide (x<=y)) (fun a b c h1 h2=>by simp only [decide_eq_true_eq] at *;omega) (fun a b=>by simp only [decide_eq_true_eq];omega) X
 exact this.imp fun h=>by simpa using h
theorem JA {F:List Bool}:(FM G F).length=(Cq F).length:=by simp [FM]
theorem Wy {F:List Bool} {k:Nat} (h:k<(FM G F).length):(FM G F)[k]=gd G ((Cq F)[k]'(by rw [JA] at h;exact h):Nat):=List.getElem_map ..
theorem MW {G:List Grp} {k:Nat} (h:k<G.length):gd G (k:Nat)=G[k]:=by unfold gd;simp [List.getD,h]
theorem Aew {F:List Bool} (hl:F.length=G.length):∀ x∈FM G F,x∈G:=fun x hx=>by
 obtain ⟨j,hj,rfl⟩:=List.mem_map.1 hx
 have:=(Hi.1 hj).1
 rw [MW (by omega)]
 exact List.getElem_mem _
theorem Xh {F:List Bool} (hl:F.length=G.length) (hq:Ey g.w g.B G=0):Ey g.w g.B (FM G F)=0:=by
 obtain ⟨h1,h2,h3⟩:=TX.1 hq
 have:=M3 (F:=F)
 exact TX.2 ⟨h1,by rw [JA];omega,fun x hx=>h3 x (Aew hl x hx)⟩
theorem Wb {w:Int} {B:List BthG} {S:List Grp} (hv:Val w B S) {hs:List Int} {t:Int}:∀ k,k<=S.length->0<=stN S hs t k/\stN S hs t k<=40*k
 | 0,_=>by simp [stN]
 | k+1,hk=>by
  obtain ⟨h1,h2⟩:=Wb hv (hs:=hs) (t:=t) k (by omega)
  have h3:=hv.g _ (List.getElem_mem (show k<S.length by omega))
  rw [← MW (by omega)] at h3
  unfold stN
  split<;>omega
end
def AdR (σ:Hp) (g:Gal) (G:List Grp) (m:Int):aB:=fun v σ'=>∃ s:SL,v=.tuple #[s.v,aD (g.admE G m)]/\Hp.Sub σ σ'/\RdS aM σ' s.A s.n (g.admits G m)
theorem AdR.err {σ:Hp} {g:Gal} {G:List Grp} {m e:Int} (h:g.admE G m=e) (h0:¬ e=0):AdR σ g G m (.tuple #[aN none 0 0,aD e]) σ:=by
 have h1:¬ g.admE G m=0:=by rw [h];exact h0
 refine ⟨⟨none,0,0⟩,by rw [h];rfl,Hp.Sub.refl _,?_⟩
 unfold Gal.admits
 rw [if_neg h1]
 exact (Aj.nil 3 aM σ).rd
section
variable {σ:Hp} {W:GaW} {g:Gal} {l:SL} {ws:Nat->SL} {G:List Grp} {m:Int}
theorem AeT {r s:SL} {B:List BthG} {S:List Grp} {P:List NRow} (hP:WE σ g.open S P) (hr:RdS sB σ r.A r.n (B.map Mp)) (ho:RdS sG σ s.A s.n (P.map NRow.g)):EvR σ r B s (fun i=>NRow.w (P.getD i nr0)) (g.red S):=by
 have hPl:=hP.1
 have e:=Ux (g:=g) hPl fun i h1 h2=>let hp:=hP.2 i h1 h2;⟨hp.a,hp.s,hp.t,hp.p⟩
 refine ⟨hr,(congrArg (fun z:List GRow=>RdS sG σ s.A s.n z) e).mpr ho,fun i hi=>?_⟩
 have hi':i<S.length:=by rwa [Gal.red_len] at hi
 have hp:=hP.2 i hi' (by omega)
 have e2:P.getD i nr0=P[i]'(by omega):=by simp [List.getD,show i<P.length by omega]
 have e3:(g.red S)[i].wants=Ot g.open S[i].wants:=congrArg Grp.wants (Gal.red_get hi hi')
 rw [e3,e2]
 exact hp.w
def Yz (P:List NRow) (F:List Bool):List NRow:=(Cq F).map fun j=>P.getD j nr0
theorem Aet {op:List Int} {P:List NRow} {F:List Bool} (h:WE σ op G P) (hl:F.length=G.length):WE σ op (FM G F) (Yz P F):=by
 refine ⟨by simp [Yz,FM],fun i h1 h2=>?_⟩
 have hi:i<(Cq F).length:=by rw [JA] at h1;exact h1
 have hj:=(Hi.1 (List.getElem_mem hi)).1
 have e1:(Yz P F)[i]=P.getD (Cq F)[i] nr0:=List.getElem_map ..
 have e2:P.getD (Cq F)[i] nr0=P[(Cq F)[i]]'(by rw [h.1];omega):=by simp [List.getD,h.1,show (Cq F)[i]<G.length by omega]
 rw [Wy h1,e1,e2,MW (by omega)]
 exact h.2 _ (by omega) (by rw [h.1];omega)
theorem AfN {A:aA} {n:Nat} {xs:List NRow} {i:Nat} {K:Int->Int->Int->aA->Nat->Nat->Int->Prop} (h:RdS sN σ A n xs) (hn:i<xs.length) (hk:∀ q:NRow,xs[i]=q->K q.1 q.2.1 q.2.2.1 q.2.2.2.1.1 q.2.2.2.1.2.1 q.2.2.2.1.2.2 q.2.2.2.2.1):
  ix A n (i:Nat) 6 fun b a=>ldI σ .i64 b a fun x0=>ldI σ .i64 b (a+1) fun x1=>ldI σ .i64 b (a+2) fun x2=>ldS σ b (a+3) fun A n c=>ldI σ .i64 b (a+4) fun x4=>K x0 x1 x2 A n c x4:=by
 refine DC (ss:=sN) h rfl (by omega) (by rw [Int.toNat_natCast];exact hn) fun b o hc=>?_
 simp only [Int.toNat_natCast] at hc
 refine AV (hc 0 (by decide)) (AV (hc 1 (by decide)) (AV (hc 2 (by decide)) (CI (hc 3 (by decide)) (AV (hc 4 (by decide)) (hk _ rfl)))))
theorem AfE {b:Nat} {t:TypeId} (he:EvR σ W.r g.B l ws G) (hv:∀ x∈G,0<=x.came/\x.came<=4000) (hb:σ b=some (.cells #[l.v] t (0,0),true)):AfQ (.func (.func 48) #[] #[.pointer (some ⟨b,0,none⟩)]) (UW G) (fun a=>0<=a/\a<G.length) σ:=by
 intro τ hs a c ha hc K hK
 refine CC.func (aW 48) (OW _ _ _ _ _ ?_)
 unfold Gr
 have het:=he.sub hs
 have hv':∀ {i:Int},0<=i->i<G.length->0<=(gd G i).came/\(gd G i).came<=4000:=fun {i} h0 h1=>by
  have e:gd G i=G[i.toNat]'(by omega):=by unfold gd;simp [List.getD,show i.toNat<G.length by omega]
  rw [e]
  exact hv _ (List.getElem_mem _)
 have h1:=hv' ha.1 ha.2
 have h2:=hv' hc.1 hc.2
 refine AF (Bf (hs _ _ hb) rfl (het.gix ha.1 ha.2 fun b o c0 _ _ _ _=>AV c0 (AF (Bf (hs _ _ hb) rfl (het.gix hc.1 hc.2 fun b o c0 _ _ _ _=>AV c0 (AQ (by omega) (Ai ⟨_,rfl,hK⟩)))))))
end
section
variable {σ:Hp} {W:GaW} {g:Gal} {l:SL} {ws:Nat->SL} {G:List Grp} {m:Int}
theorem Aca {k:Nat}:idl k++[(k:Int)]=idl (k+1):=by
 unfold idl
 rw [List.range_succ,List.map_append]
 rfl
theorem QI {n:Nat}:(idl n).length=n:=by simp [idl]
theorem Ad4:QY (fun a=>0<=a/\a<G.length) (idl G.length):=fun i hi=>by
 rw [QI] at hi
 rw [BJ (by rw [QI];exact hi)]
 unfold idl
 rw [List.getElem_map,List.getElem_range]
 omega
set_option maxRecDepth 100000 in
theorem Ab7 (h:GaR σ W g) (he:EvR σ W.r g.B l ws G) (hG:G.length<=12∨60<G.length):Af prog 19 #[W.v g,l.v,aD m] σ (AdR σ g G m):=by
 apply RW
 unfold Jh
 refine Bd (aW 46) (Yq h he) ?_
 rintro v σ2 (⟨e,rfl,rfl⟩ | ⟨e,b,ps,P,rfl,hs2,hN⟩)
 ·exact ⟨_,_,rfl,Bs (fun _=>Ai (AdR.err (by unfold Gal.admE;rw [if_neg e]) e)) (fun e2=>absurd e2 e)⟩
 obtain ⟨hg,hq⟩:=Gal.chkG_ok e
 have hv:=CB hq
 have hn60:=hv.n
 have hG12:G.length<=12:=by omega
 have eE:g.admE G m=if Inn m 0 10000=true then 0 else 1:=if_pos e
 refine ⟨_,_,rfl,Bs (fun e2=>absurd rfl e2) (fun _=>Adc (Bp (fun e3=>BL hs2 (AdR.err (by rw [eE,e3];rfl) (by decide))) (fun e3=>?_)))⟩
 rw [e3,if_pos rfl] at eE
 have hPl:=hN.pa.1
 have hln:=he.lenL
 refine Ad fun J10 h10=>?_
 have k10:J10 (idl G.length) σ2:=by
  rw [h10]
  intro _ b12 hb12
  have hbk:Blk b12 (.cells #[aN l.A l.n l.c] 57 (0,0)) σ2 (σ2.ins b12 (.cells #[aN l.A l.n l.c] 57 (0,0))):=⟨hb12,rfl⟩
  have hs13:=hbk.nin
  have hg12:=hbk.get
  generalize σ2.ins b12 _=s13 at *
  have hsσ:=hs2.trans hs13
  have he13:=he.sub hsσ
  intro A14 n14 c14 s15 ho
  have hcam:∀ x∈G,0<=x.came/\x.came<=4000:=fun x hx=>by have:=hv.g x hx;omega
  refine Bd (aW 47) (WP (AfE he13 hcam hg12) Ad4 ho (by rw [QI];omega)) ?_
  intro v s17 ho17
  obtain ⟨_,hOl,_⟩:=JQ (G:=G)
  refine ⟨N8 G,s13,ho17,Ad fun J22 h22=>?_⟩
  refine ⟨fun q A n c i τ=>∃ (k:Nat) (β:Hp) (X:List Int),q=G.length-k/\i=k/\k<=G.length/\Hp.Sub s13 β/\Aj 3 aM β A n c X τ/\X.Perm (nIz (Cq (g.admF G m k))),⟨_,0,s13,[],rfl,rfl,by omega,Hp.Sub.refl _,Aj.nil ..,?_⟩,?_⟩
  ·have:Cq (g.admF G m 0)=[]:=by
    unfold Cq
    rw [List.filter_eq_nil_iff]
    intro j _
    rw [T6 0 (by omega) j (by simp)]
    decide
   rw [this]
   exact List.Perm.refl _
  rintro q A n c i τ ⟨k,β,X,rfl,rfl,hk,hsβ,hoX,hX⟩ _
  have hFl:=Qf (g:=g) (m:=m) k hk
  have hsX:=AaR hX
  have hXl:X.length<=G.length:=by
   have h1:=hX.length_eq
   rw [K1] at h1
   have h2:=M3 (F:=g.admF G m k)
   have h3:X.length=(Cq (g.admF G m k)).length:=h1
   omega
  refine Az (fun hlt=>?_) (fun hlt=>?_)
  ·have hkl:k<G.length:=by omega
   obtain ⟨i,hi,ei,hin⟩:=Wj hkl
   have hFi:=T6 (g:=g) (m:=m) k hk i hin
   have hstep:=NG (g:=g) (m:=m) hkl
   rw [ei] at hstep
   unfold Gal.adm1 at hstep
   rw [Int.toNat_natCast] at hstep
   refine Ad fun J34 h34=>⟨by omega,by omega,JC (by omega) (by omega) ?_⟩
   rw [ei]
   have k34:∀ A n c t' b' Y,Hp.Sub s13 b'->Aj 3 aM b' A n c Y t'->Y.Perm (nIz (Cq (g.admF G m (k+1))))->J34 A n c t':=by
    intro A n c t' b' Y h1 h2 h3
    rw [h34]
    intro _
    exact AQ (by omega) (AX _ (by omega) ⟨k+1,b',Y,rfl,by omega,by omega,h1,h2,h3⟩)
   clear h34
   refine Bd (aW 49) (MD _ _ _ _ _ _ hoX (by omega)) ?_
   rintro v s41 ⟨_,hoY⟩
   have hoY:Aj 3 aM β A n c (nIz (Cq (g.admF G m k))) s41:=(congrArg (fun z:List Int=>Aj 3 aM β A n c z s41) hsX).mp hoY
   have hS:=Xh (F:=g.admF G m k) hFl hq
   have hvS:=CB hS
   have hPS:=Aet (F:=g.admF G m k) hN.pa hFl
   have hSl:=JA (G:=G) (F:=g.admF G m k)
   have hAl:=M3 (F:=g.admF G m k)
   have hAm:=fun j=>Hi (F:=g.admF G m k) (j:=j)
   have hnN:g.admN G (g.admF G m k) i=(gd G (i:Nat)).size+stN (FM G (g.admF G m k)) (g.homes (FM G (g.admF G m k))) (gd G (i:Nat)).came (FM G (g.admF G m k)).length:=rfl
   have hadd:=AbI (F:=g.admF G m k) (by omega) hFi
   have hset0:=Aaq hFi
   have hPe:∀ j,(hj:j<(Cq (g.admF G m k)).length)->(hj':j<(Yz P (g.admF G m k)).length)->(Yz P (g.admF G m k))[j]=P.getD (Cq (g.admF G m k))[j] nr0:=fun j hj _=>List.getElem_map ..
   have hPlen:(Yz P (g.admF G m k)).length=(Cq (g.admF G m k)).length:=by simp [Yz]
   clear hX hsX hoX
   generalize g.admF G m k=F at *
   generalize Yz P F=Q at *
   generalize FM G F=S at *
   generalize hD:Cq F=D at *
   have hNd:=hN.sub (hs13.trans (hsβ.trans hoY.sub))
   refine Ad fun J44 h44=>?_
   have hnD:n=D.length:=by rw [← K1];exact hoY.RdI.lenI
   have k44:J44 (Q.map NRow.g) s41:=by
    rw [h44]
    intro _
    refine AF (Bf hNd.b rfl (Bu hNd.b rfl ?_))
    intro A50 n50 c50 s51 hoS
    have hs51:Hp.Sub σ s51:=hsσ.trans (hsβ.trans (hoY.sub.trans hoS.sub))
    obtain ⟨s50,hs50⟩:∃ s:SL,s=⟨A50,n50,c50⟩:=⟨_,rfl⟩
    have hrd50:RdS sG s51 s50.A s50.n (Q.map NRow.g):=by rw [hs50];exact hoS.rd
    have hPS2:WE s51 g.open S Q:=⟨hPS.1,fun i h1 h2=>(hPS.2 i h1 h2).sub (hs13.trans (hsβ.trans (hoY.sub.trans hoS.sub)))⟩
    obtain ⟨ws2,hEv⟩:∃ ws2,EvR s51 W.r g.B s50 ws2 (g.red S):=⟨_,AeT hPS2 (h.r.sub hs51) hrd50⟩
    have hv50:(aN A50 n50 c50:Value)=s50.v:=by rw [hs50];rfl
    rw [hv50]
    refine Bd (aW 50) (Adg (w:=g.w) hEv) ?_
    rintro v s53 ⟨s54,rfl,ho54⟩
    have eh:ofL (Ey g.w g.B (g.red S)) ((Ngt.played g.w g.B (g.red S)).parties.map Pty.home)=g.homes S:=Uz (Gal.red_chk hS)
    have ho54:Aj 3 aM s51 s54.A s54.n s54.c (g.homes S) s53:=(congrArg (fun z:List Int=>Aj 3 aM s51 s54.A s54.n s54.c z s53) eh).mp ho54
    have hhl:=Sw (g:=g) (G:=S)
    rw [Gal.red_chk hS]
    clear eh
    generalize g.homes S=hs at *
    obtain ⟨s57,hoH,hoS2⟩:=Aj.swap hoS ho54
    refine ⟨_,_,_,_,rfl,Q.map NRow.g,s57,hoS2,Bs (fun e2=>absurd rfl e2) (fun _=>?_)⟩
    obtain ⟨b2,hoH2,hoX2⟩:=Aj.swap hoY hoH
    have hsb2:Hp.Sub s13 b2:=hsβ.trans hoH2.sub
    have hs57:=hsb2.trans hoX2.sub
    have he57:=he13.sub hs57
    have hrH:=hoH.RdI
    refine Bf (hs57 _ _ hg12) rfl (he57.gix (by omega) (by omega) fun b o _ c1 _ _ _=>AV c1 (Ad fun J64 h64=>?_))
    have k64:J64 ((gd G (i:Nat)).size+stN S hs (gd G (i:Nat)).came S.length) s57:=by
     rw [h64]
     intro _
     rw [← hnN]
     refine Az (fun a=>?_) (fun a=>k34 A n c _ b2 _ hsb2 hoX2 ?_)
     ·refine ⟨_,b2,hoX2,AY (by show (nIz D).length+1<=_;rw [K1];omega) fun A68 n68 c68 s69 ho69=>k34 _ _ _ _ b2 _ hsb2 ho69 ?_⟩
      rw [hstep,decide_eq_true a]
      refine List.Perm.symm ((Adt hadd).trans ?_)
      unfold nIz
      rw [List.map_append]
      exact List.Perm.refl _
     ·rw [hstep,decide_eq_false a,hset0,hD]
      exact List.Perm.refl _
    clear h64 k34
    have hgi:=hv.g _ (List.getElem_mem hi)
    rw [← MW hi] at hgi
    have hQl:(Q.map NRow.g).length=S.length:=by rw [List.length_map,hPS.1]
    refine ⟨fun q n i' τ=>∃ j:Nat,q=S.length-j/\n=(gd G (i:Nat)).size+stN S hs (gd G (i:Nat)).came j/\i'=j/\j<=S.length/\τ=s57,⟨_,0,rfl,by simp [stN],rfl,by omega,rfl⟩,?_⟩
    rintro q n' i' t' ⟨j,rfl,rfl,rfl,hj,rfl⟩ _
    have hlS:((List.length (Q.map NRow.g):Nat):Int)=S.length:=by rw [hQl]
    refine Az (fun hlt2=>?_) (fun hlt2=>?_)
    ·have hlt2:(j:Int)<(((Q.map NRow.g).length:Nat):Int):=hlt2
     have hjl:j<S.length:=by omega
     have hb1:=Wb hvS (hs:=hs) (t:=(gd G (i:Nat)).came) (j+1) (by omega)
     have hSz:((Q.map NRow.g)[j]'(by omega)).2.1=(gd S (j:Nat)).size:=by
      rw [List.getElem_map,MW hjl]
      exact (hPS.2 j hjl (by rw [hPS.1];exact hjl)).s
     have hjQ:j<(Q.map NRow.g).length:=by omega
     have hjQ2:(j:Int)<(((Q.map NRow.g).length:Nat):Int):=by omega
     refine Ad fun J78 h78=>⟨by omega,hjQ2,YX (by rw [Int.toNat_natCast];exact hjQ) (Ad fun J86 h86=>?_)⟩
     have k86:∀ t,t=decide (gt hs (j:Nat)<0∨(gd G (i:Nat)).came<=gt hs (j:Nat))->J86 t t':=by
      rintro t rfl
      rw [h86]
      intro _
      have k78:J78 ((gd G (i:Nat)).size+stN S hs (gd G (i:Nat)).came (j+1)) t':=by
       rw [h78]
       intro _
       exact AQ (by omega) (AX _ (by omega) ⟨j+1,rfl,rfl,by omega,by omega,rfl⟩)
      unfold stN at k78 hb1
      refine Az (fun a=>?_) (fun a=>?_)
      ·rw [if_pos a] at k78 hb1
       show wk .i64 ((gd G (i:Nat)).size+stN S hs (gd G (i:Nat)).came j+((Q.map NRow.g)[j]'hjQ:GRow).2.1) _
       rw [hSz]
       refine AQ (by omega) ?_
       rw [Int.add_assoc]
       exact k78
      ·rw [if_neg a,Int.add_zero] at k78
       exact k78
     clear h86 h78
     refine Ch hrH (by omega) (by omega) (Az (fun a=>k86 _ (by rw [decide_eq_true (.inl a)])) (fun a=>Ch hrH (by omega) (by omega) (Bf (hs57 _ _ hg12) rfl (he57.gix (by omega) (by omega) fun b o c0 _ _ _ _=>AV c0 (k86 _ ?_)))))
     exact decide_eq_decide.2 ⟨fun x=>.inr x,fun x=>by omega⟩
    ·have hlt2:¬ (j:Int)<(((Q.map NRow.g).length:Nat):Int):=hlt2
     obtain rfl:j=S.length:=by omega
     exact k64
   clear h44
   refine ⟨fun q xs i' τ=>∃ j:Nat,q=D.length-j/\xs=(Q.take j).map NRow.g/\i'=j/\j<=D.length/\τ=s41,⟨_,Dz.2 ⟨0,rfl,rfl,rfl,by omega,rfl⟩⟩,?_⟩
   rintro q xs i' t' ⟨j,rfl,rfl,rfl,hj,rfl⟩ _
   refine Az (fun hlt2=>?_) (fun hlt2=>?_)
   ·have hjl:j<D.length:=by omega
    have hDj:=(hAm _).1 (List.getElem_mem hjl)
    refine Ch hoY.RdI (by omega) (by rw [K1];omega) ?_
    rw [AfG hjl]
    refine AF (Bf hNd.b rfl (AfN hNd.ps (by omega) fun q hq=>AY ?_ (AQ (by omega) (AX _ (by omega) ⟨j+1,rfl,?_,by omega,by omega,rfl⟩))))
    ·show ((Q.take j).map NRow.g).length+1<=_
     rw [List.length_map,List.length_take]
     omega
    ·rw [List.take_succ_eq_append_getElem (by omega),List.map_append]
     congr 1
     have e1:=hPe j hjl (by omega)
     have e2:P.getD D[j] nr0=P[D[j]]'(by omega):=by simp [List.getD,show D[j]<P.length by omega]
     rw [e2,hq] at e1
     rw [e1]
     rfl
   ·obtain rfl:j=D.length:=by omega
    rw [← hPlen,List.take_length]
    exact k44
  ·obtain rfl:k=G.length:=by omega
   rw [h22]
   intro _
   refine Bd (aW 49) (MD _ _ _ _ _ _ hoX (by omega)) ?_
   rintro v s25 ⟨_,hoY⟩
   have hoY:Aj 3 aM β A n c (nIz (Cq (g.admF G m G.length))) s25:=(congrArg (fun z:List Int=>Aj 3 aM β A n c z s25) hsX).mp hoY
   refine Ai ⟨⟨A,n,c⟩,by rw [eE];rfl,hsσ.trans (hsβ.trans hoY.sub),?_⟩
   have:g.admits G m=nIz (Cq (g.admF G m G.length)):=if_pos eE
   rw [this]
   exact hoY.RdI
 clear h10
 refine ⟨fun q xs i τ=>∃ k:Nat,q=G.length-k/\xs=idl k/\i=k/\k<=G.length/\τ=σ2,⟨_,Dz.2 ⟨0,rfl,rfl,rfl,by omega,rfl⟩⟩,?_⟩
 rintro q xs i τ ⟨k,rfl,rfl,rfl,hk,rfl⟩ _
 refine Az (fun hlt=>?_) (fun hlt=>?_)
 ·refine AY (by show (idl k).length+1<=_;rw [QI];omega) (AQ (by omega) (AX _ (by omega) ⟨k+1,rfl,Aca,by omega,by omega,rfl⟩))
 ·obtain rfl:k=G.length:=by omega
  exact k10
end
end Go.Proofs.YtoelhdjloaknbaaGreat
