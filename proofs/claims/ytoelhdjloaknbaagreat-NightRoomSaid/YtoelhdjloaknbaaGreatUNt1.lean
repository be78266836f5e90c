/- What this claim rests on. -/
import Derived.Test.YtoelhdjloaknbaaGreatUNd1
import Derived.Test.YtoelhdjloaknbaaGreatUNe1
import Derived.Test.YtoelhdjloaknbaaGreatUR4
import Derived.Test.YtoelhdjloaknbaaGreatUB17
namespace Go.Proofs.YtoelhdjloaknbaaGreat
open Go.RowKit Go.Proofs.Tryz
def swp2 (xs:List Int) (j:Nat):List Int:=(xs.set (j+1) (gt xs j)).set j (gt xs (j+1:Nat))
def Q6 (cf:Int->Int->Int):Nat->List Int->List Int
 | 0,xs=>xs
 | j+1,xs=>if cf (gt xs (j+1:Nat)) (gt xs j)<0 then Q6 cf j (swp2 xs j) else xs
def IF (cf:Int->Int->Int):Nat->List Int->List Int
 | 0,xs=>xs
 | k+1,xs=>Q6 cf k (IF cf k xs)
theorem P5 {xs:List Int} {j:Nat}:(swp2 xs j).length=xs.length:=by simp [swp2]
theorem Tj {cf:Int->Int->Int}:∀ (j:Nat) (xs:List Int),(Q6 cf j xs).length=xs.length
 | 0,_=>rfl
 | j+1,xs=>by
  unfold Q6
  split
  ·rw [Tj j,P5]
  ·rfl
theorem Tt {cf:Int->Int->Int} {xs:List Int}:∀ k:Nat,(IF cf k xs).length=xs.length
 | 0=>rfl
 | k+1=>by unfold IF;rw [Tj,Tt k]
def R6 (P:Int->Prop) (xs:List Int):Prop:=∀ i:Nat,i<xs.length->P (gt xs i)
theorem Vd {xs:List Int} {i c:Nat} {v:Int} (hi:i<xs.length):gt (xs.set i v) c=if c=i then v else gt xs c:=by
 unfold gt
 simp only [Int.toNat_natCast,List.getD_eq_getElem?_getD,List.getElem?_set]
 by_cases e:i=c
 ·subst e
  simp [hi]
 ·rw [if_neg e,if_neg (fun h=>e h.symm)]
theorem R6.swp2 {P:Int->Prop} {xs:List Int} (h:R6 P xs) {j:Nat} (hj:j+1<xs.length):R6 P (swp2 xs j):=by
 intro i hi
 rw [P5] at hi
 unfold Go.Proofs.YtoelhdjloaknbaaGreat.swp2
 rw [Vd (by simp;omega),Vd (by omega)]
 split
 ·exact h _ hj
 ·split
  ·exact h _ (by omega)
  ·exact h _ hi
def Aav (f:Value) (cf:Int->Int->Int) (P:Int->Prop) (s0:Hp):Prop:=∀ τ,Hp.Sub s0 τ->∀ a b,P a->P b->∀ K:Int->Hp->Prop,K (cf a b) τ->cl prog f #[aD a,aD b] τ fun v σ'=>∃ t:Int,(v=aD t/\K t σ')
theorem Ti {s0 σ:Hp} {A:aA} {n c:Nat} {xs:List Int} {f:Value} {cf:Int->Int->Int} {P:Int->Prop} (hf:Aav f cf P s0) (hP:R6 P xs) (ho:Ak 3 aM s0 A n c xs σ) (hl:xs.length<=4294967296):
  Af prog 147 #[aN A n c,aD 0,aD xs.length,f] σ fun _ σ'=>Ak 3 aM s0 A n c (IF cf (max xs.length 1) xs) σ':=by
 apply Db
 unfold Bs
 refine AS (by omega) ?_
 refine ⟨fun m i σ'=>∃ k:Nat,m=max xs.length 1-k/\i=k/\1<=k/\k<=max xs.length 1/\R6 P (IF cf k xs)/\∃ s1,Ak 3 aM s0 A n c (IF cf k xs) s1/\Hp.Sub s1 σ',⟨_,1,rfl,rfl,by omega,by omega,hP,σ,ho,Hp.Sub.refl _⟩,?_⟩
 rintro m i σ' ⟨k,rfl,rfl,hk1,hk,hPk,s1,ho1,hs1⟩ _
 refine AF (fun hlt=>?_) (fun hlt=>?_)
 ·have hkl:k<xs.length:=by omega
  have hlen:=Tt (cf:=cf) (xs:=xs) k
  refine Ah fun J10 h10=>?_
  have k10:∀ ys σ',ys=IF cf (k+1) xs->R6 P ys->(∃ s1,Ak 3 aM s0 A n c ys s1/\Hp.Sub s1 σ')->J10 σ':=by
   rintro ys σ' rfl hP h
   rw [h10]
   intro _
   exact AS (by omega) (Be _ (by omega) ⟨k+1,rfl,rfl,by omega,by omega,hP,h⟩)
  rw [IF] at k10
  generalize IF cf k xs=Z at *
  refine ⟨fun m i σ'=>∃ (j:Nat) (ys:List Int),m=j/\i=j/\j<xs.length/\ys.length=xs.length/\Q6 cf j ys=Q6 cf k Z/\R6 P ys/\∃ s1,Ak 3 aM s0 A n c ys s1/\Hp.Sub s1 σ',⟨_,k,Z,rfl,rfl,hkl,hlen,rfl,hPk,s1,ho1,hs1⟩,?_⟩
  rintro m i σ' ⟨j,ys,rfl,rfl,hj,hyl,hins,hPy,σ2,ho2,hs2⟩ _
  refine Ah fun J21 h21=>Ah fun J41 h41=>?_
  have hrd:RdS aM σ' A n ys:=ho2.rd.sub hs2
  have hn:n=xs.length:=by have:=hrd.lenI;omega
  cases m with
  | zero=>
   refine AF (fun h=>by omega) (fun _=>?_)
   rw [h41]
   exact fun _=>Aa2 (k10 _ _ hins hPy ⟨σ2,ho2,hs2⟩)
  | succ j=>
   have e1:((j+1:Nat):Int)-1=(j:Nat):=by omega
   refine AF (fun _=>?_) (fun h=>by omega)
   refine EJ hrd (by omega) (by omega) (AS (by omega) ?_)
   rw [e1]
   refine EJ hrd (by omega) (by omega) (hf _ (ho2.sub.trans hs2) _ _ (hPy _ (by omega)) (hPy _ (by omega)) _ ?_)
   rw [h41]
   intro _
   refine AF (fun hc=>?_) (fun hc=>k10 ys _ ?_ hPy ⟨σ2,ho2,hs2⟩)
   ·rw [h21]
    intro _
    refine AS (by omega) (AS (by omega) ?_)
    rw [e1]
    refine EJ hrd (by omega) (by omega) (EJ hrd (by omega) (by omega) ?_)
    refine ho2.ix_stI hs2 (by omega) (by omega) fun s3 t3 ho3 hs3=>?_
    refine ho3.ix_stI hs3 (by omega) (by simp;omega) fun s4 t4 ho4 hs4=>?_
    refine AS (by omega) (Be j (by omega) ⟨j,swp2 ys j,rfl,by omega,by omega,by rw [P5,hyl],?_,hPy.swp2 (by omega),s4,?_,hs4⟩)
    ·rw [← hins,Q6,if_pos hc]
    ·simpa [swp2] using ho4
   ·rw [← hins,Q6,if_neg hc]
 ·have:k=max xs.length 1:=by omega
  rw [this] at ho1
  exact Bm hs1 ho1
theorem RT {s0 σ:Hp} {A:aA} {n c:Nat} {xs:List Int} {f:Value} {cf:Int->Int->Int} {P:Int->Prop} (hf:Aav f cf P s0) (hP:R6 P xs) (ho:Ak 3 aM s0 A n c xs σ) (hl:xs.length<=19):
  Af prog 47 #[aN A n c,f] σ fun _ σ'=>Ak 3 aM s0 A n c (IF cf (max xs.length 1) xs) σ':=by
 apply EZ
 unfold BX
 have hn:n=xs.length:=ho.len
 subst hn
 refine AW (aV 90) (R:=fun _ σ'=>Ak 3 aM s0 A xs.length c (IF cf (max xs.length 1) xs) σ') ?_ fun v σ' h=>Al h
 apply Fv
 unfold B1
 refine Ah fun J3 h3=>?_
 refine ⟨fun m i j σ'=>i=0/\j=20/\σ'=σ,⟨0,rfl,rfl,rfl⟩,?_⟩
 rintro m i j σ' ⟨rfl,rfl,rfl⟩ _
 refine AF (fun h=>by omega) (fun _=>?_)
 rw [h3]
 intro _
 refine AW (aV 147) (Ti hf hP ho (by omega)) fun v σ2 h2=>?_
 refine ⟨fun m i σ'=>i=20/\σ'=σ2,⟨0,rfl,rfl⟩,?_⟩
 rintro m i σ' ⟨rfl,rfl⟩ _
 exact AF (fun h=>by omega) (fun _=>Al h2)
def slt (kf:Int->Int) (a b:Int):Prop:=kf a<kf b∨(kf a=kf b/\a<b)
theorem WM {cf:Int->Int->Int} {kf:Int->Int} {P:Int->Prop} (hcf:∀ a b,P a->P b->(cf a b<0↔kf a<kf b)):∀ (n:Nat) (A:List Int) (x:Int) (R:List Int),A.length=n->A.Pairwise (slt kf)->(∀ a∈A,a<x/\P a)->P x ->
  ∃ B C,A=B++C/\Q6 cf A.length (A++x::R)=B++x::(C++R)/\(∀ b∈B,kf b<=kf x)/\∀ c∈C,kf x<kf c:=by
 intro n
 induction n with
 | zero=>
  intro A x R hA _ _ _
  have:A=[]:=List.eq_nil_of_length_eq_zero hA
  subst this
  exact ⟨[],[],rfl,rfl,fun b hb=>(by cases hb),fun c hc=>(by cases hc)⟩
 | succ n ih=>
  intro A x R hA hs hP hx
  obtain ⟨A',y,rfl⟩:∃ A' y,A=A'++[y]:=by
   rcases List.eq_nil_or_concat A with rfl | ⟨A',y,h⟩
   ·simp at hA
   ·exact ⟨A',y,by simpa using h⟩
  have hA':A'.length=n:=by simp at hA;omega
  have hs':=List.pairwise_append.1 hs
  have hy:=hP y (by simp)
  have e1:(A'++[y])++x::R=A'++y::x::R:=by simp
  have e2:(A'++[y]).length=A'.length+1:=by simp
  have g1:gt (A'++y::x::R) A'.length=y:=S0
  have g2:gt (A'++y::x::R) ((A'.length+1:Nat):Int)=x:=by
   have:=S0 (A:=A'++[y]) (B:=R) (x:=x)
   rw [e1,e2] at this
   exact this
  rw [e1,e2,Q6,g1,g2]
  have hc:=hcf x y hx hy.2
  split
  ·rename_i hlt
   have es:swp2 (A'++y::x::R) A'.length=A'++x::y::R:=by
    unfold swp2
    rw [g1,g2,List.set_append_right _ _ (by omega),List.set_append_right _ _ (by simp)]
    simp
   rw [es]
   obtain ⟨B,C,rfl,h1,h2,h3⟩:=ih A' x (y::R) hA' hs'.1 (fun a ha=>hP a (List.mem_append_left _ ha)) hx
   refine ⟨B,C++[y],by simp,by rw [h1];simp,h2,fun c hc'=>?_⟩
   rcases List.mem_append.1 hc' with h | h
   ·exact h3 c h
   ·rw [List.mem_singleton.1 h];exact hc.1 hlt
  ·rename_i hlt
   refine ⟨A'++[y],[],by simp,by simp,fun b hb=>?_,fun c hc=>(by cases hc)⟩
   have hxy:kf y<=kf x:=by
    rcases Int.lt_or_le (kf x) (kf y) with h | h
    ·exact absurd (hc.2 h) hlt
    ·exact h
   rcases List.mem_append.1 hb with h | h
   ·have:=hs'.2.2 b h y (by simp)
    unfold slt at this
    omega
   ·rw [List.mem_singleton.1 h];exact hxy
def idl (n:Nat):List Int:=(List.range n).map fun i:Nat=>(i:Int)
theorem YJ {n k:Nat} (h:k<n):(idl n).drop k=(k:Int)::(idl n).drop (k+1):=by
 have hl:k<(idl n).length:=by simpa [idl] using h
 rw [List.drop_eq_getElem_cons hl]
 congr 1
 simp [idl]
theorem Rm {cf:Int->Int->Int} {kf:Int->Int} {n:Nat} (hcf:∀ a b:Int,(0<=a/\a<n)->(0<=b/\b<n)->(cf a b<0↔kf a<kf b)):∀ k,k<=n->∃ S,IF cf k (idl n)=S++(idl n).drop k/\S.length=k/\S.Pairwise (slt kf)/\∀ a,a∈S↔0<=a/\a<k
 | 0,_=>⟨[],by simp [IF],rfl,List.Pairwise.nil,fun a=>⟨fun h=>(by cases h),fun h=>by omega⟩⟩
 | k+1,hk=>by
  obtain ⟨S,h1,h2,h3,h4⟩:=Rm hcf k (by omega)
  obtain ⟨B,C,hS,hJ,hB,hC⟩:=WM (P:=fun a=>0<=a/\a<n) (fun a b=>hcf a b) k S k ((idl n).drop (k+1)) h2 h3 (fun a ha=>by have:=(h4 a).1 ha;omega) (by omega)
  refine ⟨B++(k:Int)::C,?_,?_,?_,fun a=>?_⟩
  ·rw [IF,h1,YJ (by omega)]
   rw [h2] at hJ
   rw [hJ]
   simp
  ·have:=congrArg List.length hS
   simp at this ⊢
   omega
  ·rw [hS] at h3
   obtain ⟨p1,p2,p3⟩:=List.pairwise_append.1 h3
   refine List.pairwise_append.2 ⟨p1,List.pairwise_cons.2 ⟨fun c hc=>.inl (hC c hc),p2⟩,fun b hb c hc=>?_⟩
   rcases List.mem_cons.1 hc with rfl | hc
   ·have:=hB b hb
    have hlt:=((h4 b).1 (by rw [hS];exact List.mem_append_left _ hb)).2
    unfold slt
    omega
   ·exact p3 b hb c hc
  ·have e:a∈B++(k:Int)::C↔a∈S∨a=k:=by
    rw [hS]
    simp only [List.mem_append,List.mem_cons]
    constructor
    ·rintro (h | h | h)
     ·exact .inl (.inl h)
     ·exact .inr h
     ·exact .inl (.inr h)
    ·rintro ((h | h) | h)
     ·exact .inl h
     ·exact .inr (.inr h)
     ·exact .inr (.inl h)
   rw [e,h4 a]
   omega
theorem T8 {cf:Int->Int->Int} {kf:Int->Int} {n:Nat} (hcf:∀ a b:Int,(0<=a/\a<n)->(0<=b/\b<n)->(cf a b<0↔kf a<kf b)):(IF cf (max (idl n).length 1) (idl n)).Pairwise (slt kf)/\(IF cf (max (idl n).length 1) (idl n)).length=n/\∀ a,a∈IF cf (max (idl n).length 1) (idl n)↔0<=a/\a<n:=by
 have hl:(idl n).length=n:=by simp [idl]
 rw [hl]
 rcases Nat.eq_zero_or_pos n with h0 | h0
 ·subst h0
  have:IF cf (max 0 1) (idl 0)=[]:=rfl
  rw [this]
  exact ⟨List.Pairwise.nil,rfl,fun a=>⟨fun h=>(by cases h),fun h=>by omega⟩⟩
 ·obtain ⟨S,h1,h2,h3,h4⟩:=Rm hcf n (Nat.le_refl _)
  have hd:(idl n).drop n=[]:=by simp [idl]
  rw [hd,List.append_nil] at h1
  rw [show max n 1=n by omega,h1]
  exact ⟨h3,h2,h4⟩
def AX (F:List Bool):List Nat:=(List.range F.length).filter fun j=>F.getD j false
def B0 (G:List Grp) (F:List Bool):List Grp:=(AX F).map fun j:Nat=>gd G j
def nIz (l:List Nat):List Int:=l.map fun j:Nat=>(j:Int)
def stN (S:List Grp) (hs:List Int) (t:Int):Nat->Int
 | 0=>0
 | k+1=>stN S hs t k+if gt hs (k:Nat)<0∨t<=gt hs (k:Nat) then (gd S (k:Nat)).size else 0
def Gal.admN (g:Gal) (G:List Grp) (F:List Bool) (i:Nat):Int:=(gd G (i:Nat)).size+stN (B0 G F) (g.homes (B0 G F)) (gd G (i:Nat)).came (B0 G F).length
def Gal.adm1 (g:Gal) (G:List Grp) (m:Int) (F:List Bool) (i:Int):List Bool:=F.set i.toNat (decide (g.admN G F i.toNat<=m))
def Aa4 (G:List Grp) (a b:Int):Int:=(gd G a).came-(gd G b).came
def Eh (G:List Grp):List Int:=IF (Aa4 G) (max (idl G.length).length 1) (idl G.length)
def Gal.admF (g:Gal) (G:List Grp) (m:Int) (k:Nat):List Bool:=((Eh G).take k).foldl (g.adm1 G m) (List.replicate G.length false)
def Gal.admE (g:Gal) (G:List Grp) (m:Int):Int:=if g.chkG G=0 then if Inn m 0 10000=true then 0 else 1 else g.chkG G
def Gal.admits (g:Gal) (G:List Grp) (m:Int):List Int:=if g.admE G m=0 then nIz (AX (g.admF G m G.length)) else []
section
variable {g:Gal} {G:List Grp} {m:Int}
theorem D0:(Eh G).Pairwise (slt fun a=>(gd G a).came)/\(Eh G).length=G.length/\∀ a,a∈Eh G↔0<=a/\a<G.length:=by
 refine T8 fun a b _ _=>?_
 unfold Aa4
 omega
theorem Lm {k:Nat} (hk:k<G.length):∃ i:Nat,i<G.length/\gt (Eh G) k=i/\¬ (i:Int)∈(Eh G).take k:=by
 obtain ⟨h1,h2,h3⟩:=D0 (G:=G)
 have hk':k<(Eh G).length:=by omega
 have hm:=(h3 _).1 (List.getElem_mem hk')
 refine ⟨((Eh G)[k]).toNat,by omega,by rw [B3 hk'];omega,?_⟩
 rw [Int.toNat_of_nonneg hm.1]
 intro hc
 obtain ⟨j,hj,e⟩:=List.getElem_of_mem hc
 rw [List.length_take] at hj
 rw [List.getElem_take] at e
 have:=List.pairwise_iff_getElem.1 h1 j k (by omega) hk' (by omega)
 rw [e] at this
 unfold slt at this
 omega
theorem Ig {k:Nat} (hk:k<G.length):g.admF G m (k+1)=g.adm1 G m (g.admF G m k) (gt (Eh G) k):=by
 have hk':k<(Eh G).length:=by rw [(D0 (G:=G)).2.1];exact hk
 unfold Gal.admF
 rw [Lv hk',B3 hk']
theorem Ng {w:List Bool} {i j:Nat} {b:Bool}:(w.set i b).getD j false=if i=j/\j<w.length then b else w.getD j false:=by
 rw [List.getD_eq_getElem?_getD,List.getD_eq_getElem?_getD,List.getElem?_set]
 by_cases e:i=j
 ·subst e
  by_cases h:i<w.length
  ·simp [h]
  ·simp [h]
 ·simp [e]
theorem Fp:∀ k,k<=G.length->(g.admF G m k).length=G.length
 | 0,_=>by simp [Gal.admF]
 | k+1,hk=>by
  rw [Ig (by omega)]
  unfold Gal.adm1
  rw [List.length_set]
  exact Fp k (by omega)
theorem RN {l:List Int} {k:Nat} {x:Int} (hk:k<l.length):x∈l.take (k+1)↔x∈l.take k∨x=gt l k:=by
 rw [List.take_succ_eq_append_getElem hk,List.mem_append,List.mem_singleton,B3 hk]
theorem IA:∀ k,k<=G.length->∀ j:Nat,¬ (j:Int)∈(Eh G).take k->(g.admF G m k).getD j false=false
 | 0,_,j,_=>by
  show (List.replicate G.length false).getD j false=false
  rw [List.getD_eq_getElem?_getD,List.getElem?_replicate]
  split<;>rfl
 | k+1,hk,j,hj=>by
  have hk':k<(Eh G).length:=by rw [(D0 (G:=G)).2.1];omega
  rw [RN hk'] at hj
  obtain ⟨i,_,e,_⟩:=Lm (G:=G) (k:=k) (by omega)
  rw [Ig (by omega),e]
  unfold Gal.adm1
  rw [Ng,if_neg fun x=>hj (.inr (by rw [e];omega))]
  exact IA k (by omega) j fun x=>hj (.inl x)
theorem CW {F:List Bool} {j:Nat}:j∈AX F↔j<F.length/\F.getD j false=true:=by
 unfold AX
 rw [List.mem_filter,List.mem_range]
theorem Hc {F:List Bool}:(AX F).Pairwise (· < ·):=List.Pairwise.sublist List.filter_sublist List.pairwise_lt_range
theorem NO {F:List Bool}:(AX F).length<=F.length:=by
 have:=List.length_filter_le (fun j=>F.getD j false) (List.range F.length)
 rw [List.length_range] at this
 exact this
theorem IG {l:List Nat}:(nIz l).length=l.length:=by simp [nIz]
theorem Ub {l:List Nat} {k:Nat} (h:k<l.length):gt (nIz l) k=(l[k]:Nat):=by
 rw [B3 (by rw [IG];exact h)]
 unfold nIz
 rw [List.getElem_map]
theorem WV {F:List Bool} {i:Nat} (h:F.getD i false=false):F.set i false=F:=by
 refine List.ext_getElem (by simp) fun j h1 h2=>?_
 rw [List.getElem_set]
 split
 ·rename_i e
  subst e
  have:F.getD i false=F[i]:=by simp [List.getD,h2]
  rw [← this,h]
 ·rfl
theorem Xz {F:List Bool} {i:Nat} (hi:i<F.length) (h:F.getD i false=false):(AX (F.set i true)).Perm (AX F++[i]):=by
 refine (List.perm_ext_iff_of_nodup ?_ ?_).2 fun j=>?_
 ·exact Hc.imp fun h=>Nat.ne_of_lt h
 ·rw [List.nodup_append]
  refine ⟨Hc.imp fun h=>Nat.ne_of_lt h,by simp,fun a ha b hb=>?_⟩
  rw [List.mem_singleton] at hb
  subst hb
  intro e
  subst e
  rw [(CW.1 ha).2] at h
  cases h
 ·rw [List.mem_append,CW,CW,List.mem_singleton,List.length_set,Ng]
  by_cases e:i=j
  ·subst e
   rw [if_pos ⟨rfl,hi⟩]
   simp [hi]
  ·rw [if_neg fun x=>e x.1]
   constructor
   ·exact fun x=>.inl x
   ·rintro (x | x)
    ·exact x
    ·exact absurd x.symm e
theorem XN {l l':List Nat} (h:l.Perm l'):(nIz l).Perm (nIz l'):=h.map _
theorem WS {X:List Int} {F:List Bool} (h:X.Perm (nIz (AX F))):H3 X=nIz (AX F):=by
 have hs:(nIz (AX F)).Pairwise (· < ·):=by
  unfold nIz
  rw [List.pairwise_map]
  exact Hc.imp fun h=>by omega
 refine GJ (R:=fun a b=>a<=b) ((Cn _ X).trans h) ?_ (hs.imp fun h=>Int.le_of_lt h) fun a _ b _ h1 h2=>by omega
 have:=Ew (le:=fun x y:Int=>decide (x<=y)) (fun a b c h1 h2=>by simp only [decide_eq_true_eq] at *;omega) (fun a b=>by simp only [decide_eq_true_eq];omega) X
 exact this.imp fun h=>by simpa using h
theorem Cd {F:List Bool}:(B0 G F).length=(AX F).length:=by simp [B0]
theorem N0 {F:List Bool} {k:Nat} (h:k<(B0 G F).length):(B0 G F)[k]=gd G ((AX F)[k]'(by rw [Cd] at h;exact h):Nat):=List.getElem_map ..
theorem PQ {F:List Bool} {k:Nat} (h:k<(AX F).length):gd (B0 G F) (k:Nat)=gd G ((AX F)[k]:Nat):=by
 have e:gd (B0 G F) (k:Nat)=(B0 G F)[k]'(by rw [Cd];exact h):=by unfold gd;simp [List.getD,Cd,h]
 rw [e,N0]
theorem Hv {G:List Grp} {k:Nat} (h:k<G.length):gd G (k:Nat)=G[k]:=by unfold gd;simp [List.getD,h]
theorem Zp {F:List Bool} (hl:F.length=G.length):∀ x∈B0 G F,x∈G:=fun x hx=>by
 obtain ⟨j,hj,rfl⟩:=List.mem_map.1 hx
 have:=(CW.1 hj).1
 rw [Hv (by omega)]
 exact List.getElem_mem _
theorem NP {F:List Bool} (hl:F.length=G.length) (hq:Fs g.w g.B G=0):Fs g.w g.B (B0 G F)=0:=by
 obtain ⟨h1,h2,h3⟩:=Qa.1 hq
 have:=NO (F:=F)
 exact Qa.2 ⟨h1,by rw [Cd];omega,fun x hx=>h3 x (Zp hl x hx)⟩
theorem VI {w:Int} {B:List BthG} {S:List Grp} (hv:Val w B S) {hs:List Int} {t:Int}:∀ k,k<=S.length->0<=stN S hs t k/\stN S hs t k<=40*k
 | 0,_=>by simp [stN]
 | k+1,hk=>by
  obtain ⟨h1,h2⟩:=VI hv (hs:=hs) (t:=t) k (by omega)
  have h3:=hv.g _ (List.getElem_mem (show k<S.length by omega))
  rw [← Hv (by omega)] at h3
  unfold stN
  split<;>omega
end
def AdR (σ:Hp) (g:Gal) (G:List Grp) (m:Int):aB:=fun v σ'=>∃ s:SL,v=.tuple #[s.v,aD (g.admE G m)]/\Hp.Sub σ σ'/\RdS aM σ' s.A s.n (g.admits G m)
theorem AdR.err {σ:Hp} {g:Gal} {G:List Grp} {m e:Int} (h:g.admE G m=e) (h0:¬ e=0):AdR σ g G m (.tuple #[aN none 0 0,aD e]) σ:=by
 have h1:¬ g.admE G m=0:=by rw [h];exact h0
 refine ⟨⟨none,0,0⟩,by rw [h];rfl,Hp.Sub.refl _,?_⟩
 unfold Gal.admits
 rw [if_neg h1]
 exact (Ak.nil 3 aM σ).rd
section
variable {σ:Hp} {W:GaW} {g:Gal} {l:SL} {ws:Nat->SL} {G:List Grp} {m:Int}
theorem Z6 {r s:SL} {B:List BthG} {S:List Grp} {P:List NRow} (hP:So σ g.open S P) (hr:RdS sB σ r.A r.n (B.map Kv)) (ho:RdS sG σ s.A s.n (P.map NRow.g)):EvR σ r B s (fun i=>NRow.w (P.getD i nr0)) (g.red S):=by
 have hPl:=hP.1
 have e:=Qt (g:=g) hPl fun i h1 h2=>let hp:=hP.2 i h1 h2;⟨hp.a,hp.s,hp.t,hp.p⟩
 refine ⟨hr,(congrArg (fun z:List GRow=>RdS sG σ s.A s.n z) e).mpr ho,fun i hi=>?_⟩
 have hi':i<S.length:=by rwa [Gal.red_len] at hi
 have hp:=hP.2 i hi' (by omega)
 have e2:P.getD i nr0=P[i]'(by omega):=by simp [List.getD,show i<P.length by omega]
 have e3:(g.red S)[i].wants=Pz g.open S[i].wants:=congrArg Grp.wants (Gal.red_get hi hi')
 rw [e3,e2]
 exact hp.w
def Tz (P:List NRow) (F:List Bool):List NRow:=(AX F).map fun j=>P.getD j nr0
theorem ZI {op:List Int} {P:List NRow} {F:List Bool} (h:So σ op G P) (hl:F.length=G.length):So σ op (B0 G F) (Tz P F):=by
 refine ⟨by simp [Tz,B0],fun i h1 h2=>?_⟩
 have hi:i<(AX F).length:=by rw [Cd] at h1;exact h1
 have hj:=(CW.1 (List.getElem_mem hi)).1
 have e1:(Tz P F)[i]=P.getD (AX F)[i] nr0:=List.getElem_map ..
 have e2:P.getD (AX F)[i] nr0=P[(AX F)[i]]'(by rw [h.1];omega):=by simp [List.getD,h.1,show (AX F)[i]<G.length by omega]
 rw [N0 h1,e1,e2,Hv (by omega)]
 exact h.2 _ (by omega) (by rw [h.1];omega)
theorem AaW {A:aA} {n:Nat} {xs:List NRow} {i:Nat} {K:Int->Int->Int->aA->Nat->Nat->Int->Prop} (h:RdS sN σ A n xs) (hn:i<xs.length) (hk:∀ q:NRow,xs[i]=q->K q.1 q.2.1 q.2.2.1 q.2.2.2.1.1 q.2.2.2.1.2.1 q.2.2.2.1.2.2 q.2.2.2.2.1):
  ix A n (i:Nat) 6 fun b a=>ldI σ .i64 b a fun x0=>ldI σ .i64 b (a+1) fun x1=>ldI σ .i64 b (a+2) fun x2=>ldS σ b (a+3) fun A n c=>ldI σ .i64 b (a+4) fun x4=>K x0 x1 x2 A n c x4:=by
 refine Eg (ss:=sN) h rfl (by omega) (by rw [Int.toNat_natCast];exact hn) fun b o hc=>?_
 simp only [Int.toNat_natCast] at hc
 refine AV (hc 0 (by decide)) (AV (hc 1 (by decide)) (AV (hc 2 (by decide)) (Qj (hc 3 (by decide)) (AV (hc 4 (by decide)) (hk _ rfl)))))
theorem Aay {b:Nat} {t:TypeId} (he:EvR σ W.r g.B l ws G) (hv:∀ x∈G,0<=x.came/\x.came<=4000) (hb:σ b=some (.cells #[l.v] t (0,0),true)):Aav (.func (.func 48) #[] #[.pointer (some ⟨b,0,none⟩)]) (Aa4 G) (fun a=>0<=a/\a<G.length) σ:=by
 intro τ hs a c ha hc K hK
 refine B7.func (aV 48) (Mm _ _ _ _ _ ?_)
 unfold FD
 have het:=he.sub hs
 have hv':∀ {i:Int},0<=i->i<G.length->0<=(gd G i).came/\(gd G i).came<=4000:=fun {i} h0 h1=>by
  have e:gd G i=G[i.toNat]'(by omega):=by unfold gd;simp [List.getD,show i.toNat<G.length by omega]
  rw [e]
  exact hv _ (List.getElem_mem _)
 have h1:=hv' ha.1 ha.2
 have h2:=hv' hc.1 hc.2
 refine AG (Bu (hs _ _ hb) rfl (het.gix ha.1 ha.2 fun b o c0 _ _ _ _=>AV c0 (AG (Bu (hs _ _ hb) rfl (het.gix hc.1 hc.2 fun b o c0 _ _ _ _=>AV c0 (AS (by omega) (Al ⟨_,rfl,hK⟩)))))))
end
section
variable {σ:Hp} {W:GaW} {g:Gal} {l:SL} {ws:Nat->SL} {G:List Grp} {m:Int}
theorem Yo {k:Nat}:idl k++[(k:Int)]=idl (k+1):=by
 unfold idl
 rw [List.range_succ,List.map_append]
 rfl
theorem NJ {n:Nat}:(idl n).length=n:=by simp [idl]
theorem Zt:R6 (fun a=>0<=a/\a<G.length) (idl G.length):=fun i hi=>by
 rw [NJ] at hi
 rw [B3 (by rw [NJ];exact hi)]
 unfold idl
 rw [List.getElem_map,List.getElem_range]
 omega
set_option maxRecDepth 100000 in
theorem Xy (h:GaR σ W g) (he:EvR σ W.r g.B l ws G) (hG:G.length<=12∨60<G.length):Af prog 19 #[W.v g,l.v,aD m] σ (AdR σ g G m):=by
 apply Oy
 unfold Ho
 refine AW (aV 46) (TN h he) ?_
 rintro v σ2 (⟨e,rfl,rfl⟩ | ⟨e,b,ps,P,rfl,hs2,hN⟩)
 ·exact ⟨_,_,rfl,BQ (fun _=>Al (AdR.err (by unfold Gal.admE;rw [if_neg e]) e)) (fun e2=>absurd e2 e)⟩
 obtain ⟨hg,hq⟩:=Gal.chkG_ok e
 have hv:=Cu hq
 have hn60:=hv.n
 have hG12:G.length<=12:=by omega
 have eE:g.admE G m=if Inn m 0 10000=true then 0 else 1:=if_pos e
 refine ⟨_,_,rfl,BQ (fun e2=>absurd rfl e2) (fun _=>X7 (B5 (fun e3=>Bm hs2 (AdR.err (by rw [eE,e3];rfl) (by decide))) (fun e3=>?_)))⟩
 rw [e3,if_pos rfl] at eE
 have hPl:=hN.pa.1
 have hln:=he.lenL
 refine Ah fun J10 h10=>?_
 have k10:J10 (idl G.length) σ2:=by
  rw [h10]
  intro _ b12 hb12
  have hbk:Blk b12 (.cells #[aN l.A l.n l.c] 57 (0,0)) σ2 (σ2.ins b12 (.cells #[aN l.A l.n l.c] 57 (0,0))):=⟨hb12,rfl⟩
  have hs13:=hbk.nin
  have hg12:=hbk.get
  generalize σ2.ins b12 _=s13 at *
  have hsσ:=hs2.trans hs13
  have he13:=he.sub hsσ
  intro A14 n14 c14 s15 ho
  have hcam:∀ x∈G,0<=x.came/\x.came<=4000:=fun x hx=>by have:=hv.g x hx;omega
  refine AW (aV 47) (RT (Aay he13 hcam hg12) Zt ho (by rw [NJ];omega)) ?_
  intro v s17 ho17
  obtain ⟨_,hOl,_⟩:=D0 (G:=G)
  refine ⟨Eh G,s13,ho17,Ah fun J22 h22=>?_⟩
  refine ⟨fun q A n c i τ=>∃ (k:Nat) (β:Hp) (X:List Int),q=G.length-k/\i=k/\k<=G.length/\Hp.Sub s13 β/\Ak 3 aM β A n c X τ/\X.Perm (nIz (AX (g.admF G m k))),⟨_,0,s13,[],rfl,rfl,by omega,Hp.Sub.refl _,Ak.nil ..,?_⟩,?_⟩
  ·have:AX (g.admF G m 0)=[]:=by
    unfold AX
    rw [List.filter_eq_nil_iff]
    intro j _
    rw [IA 0 (by omega) j (by simp)]
    decide
   rw [this]
   exact List.Perm.refl _
  rintro q A n c i τ ⟨k,β,X,rfl,rfl,hk,hsβ,hoX,hX⟩ _
  have hFl:=Fp (g:=g) (m:=m) k hk
  have hsX:=WS hX
  have hXl:X.length<=G.length:=by
   have h1:=hX.length_eq
   rw [IG] at h1
   have h2:=NO (F:=g.admF G m k)
   have h3:X.length=(AX (g.admF G m k)).length:=h1
   omega
  refine AF (fun hlt=>?_) (fun hlt=>?_)
  ·have hkl:k<G.length:=by omega
   obtain ⟨i,hi,ei,hin⟩:=Lm hkl
   have hFi:=IA (g:=g) (m:=m) k hk i hin
   have hstep:=Ig (g:=g) (m:=m) hkl
   rw [ei] at hstep
   unfold Gal.adm1 at hstep
   rw [Int.toNat_natCast] at hstep
   refine Ah fun J34 h34=>⟨by omega,by omega,AbA (by omega) (by omega) ?_⟩
   rw [ei]
   have k34:∀ A n c t' b' Y,Hp.Sub s13 b'->Ak 3 aM b' A n c Y t'->Y.Perm (nIz (AX (g.admF G m (k+1))))->J34 A n c t':=by
    intro A n c t' b' Y h1 h2 h3
    rw [h34]
    intro _
    exact AS (by omega) (Be _ (by omega) ⟨k+1,b',Y,rfl,by omega,by omega,h1,h2,h3⟩)
   clear h34
   refine AW (aV 49) (KQ _ _ _ _ _ _ hoX (by omega)) ?_
   rintro v s41 ⟨_,hoY⟩
   have hoY:Ak 3 aM β A n c (nIz (AX (g.admF G m k))) s41:=(congrArg (fun z:List Int=>Ak 3 aM β A n c z s41) hsX).mp hoY
   have hS:=NP (F:=g.admF G m k) hFl hq
   have hvS:=Cu hS
   have hPS:=ZI (F:=g.admF G m k) hN.pa hFl
   have hSl:=Cd (G:=G) (F:=g.admF G m k)
   have hAl:=NO (F:=g.admF G m k)
   have hAm:=fun j=>CW (F:=g.admF G m k) (j:=j)
   have hnN:g.admN G (g.admF G m k) i=(gd G (i:Nat)).size+stN (B0 G (g.admF G m k)) (g.homes (B0 G (g.admF G m k))) (gd G (i:Nat)).came (B0 G (g.admF G m k)).length:=rfl
   have hadd:=Xz (F:=g.admF G m k) (by omega) hFi
   have hset0:=WV hFi
   have hPe:∀ j,(hj:j<(AX (g.admF G m k)).length)->(hj':j<(Tz P (g.admF G m k)).length)->(Tz P (g.admF G m k))[j]=P.getD (AX (g.admF G m k))[j] nr0:=fun j hj _=>List.getElem_map ..
   have hPlen:(Tz P (g.admF G m k)).length=(AX (g.admF G m k)).length:=by simp [Tz]
   clear hX hsX hoX
   generalize g.admF G m k=F at *
   generalize Tz P F=Q at *
   generalize B0 G F=S at *
   generalize hD:AX F=D at *
   have hNd:=hN.sub (hs13.trans (hsβ.trans hoY.sub))
   refine Ah fun J44 h44=>?_
   have hnD:n=D.length:=by rw [← IG];exact hoY.RdI.lenI
   have k44:J44 (Q.map NRow.g) s41:=by
    rw [h44]
    intro _
    refine AG (Bu hNd.b rfl (Bh hNd.b rfl ?_))
    intro A50 n50 c50 s51 hoS
    have hs51:Hp.Sub σ s51:=hsσ.trans (hsβ.trans (hoY.sub.trans hoS.sub))
    obtain ⟨s50,hs50⟩:∃ s:SL,s=⟨A50,n50,c50⟩:=⟨_,rfl⟩
    have hrd50:RdS sG s51 s50.A s50.n (Q.map NRow.g):=by rw [hs50];exact hoS.rd
    have hPS2:So s51 g.open S Q:=⟨hPS.1,fun i h1 h2=>(hPS.2 i h1 h2).sub (hs13.trans (hsβ.trans (hoY.sub.trans hoS.sub)))⟩
    obtain ⟨ws2,hEv⟩:∃ ws2,EvR s51 W.r g.B s50 ws2 (g.red S):=⟨_,Z6 hPS2 (h.r.sub hs51) hrd50⟩
    have hv50:(aN A50 n50 c50:Value)=s50.v:=by rw [hs50];rfl
    rw [hv50]
    refine AW (aV 50) (Yk (w:=g.w) hEv) ?_
    rintro v s53 ⟨s54,rfl,ho54⟩
    have eh:ofL (Fs g.w g.B (g.red S)) ((Ngt.played g.w g.B (g.red S)).parties.map Pty.home)=g.homes S:=UP (Gal.red_chk hS)
    have ho54:Ak 3 aM s51 s54.A s54.n s54.c (g.homes S) s53:=(congrArg (fun z:List Int=>Ak 3 aM s51 s54.A s54.n s54.c z s53) eh).mp ho54
    have hhl:=Rr (g:=g) (G:=S)
    rw [Gal.red_chk hS]
    clear eh
    generalize g.homes S=hs at *
    obtain ⟨s57,hoH,hoS2⟩:=Ak.swap hoS ho54
    refine ⟨_,_,_,_,rfl,Q.map NRow.g,s57,hoS2,BQ (fun e2=>absurd rfl e2) (fun _=>?_)⟩
    obtain ⟨b2,hoH2,hoX2⟩:=Ak.swap hoY hoH
    have hsb2:Hp.Sub s13 b2:=hsβ.trans hoH2.sub
    have hs57:=hsb2.trans hoX2.sub
    have he57:=he13.sub hs57
    have hrH:=hoH.RdI
    refine Bu (hs57 _ _ hg12) rfl (he57.gix (by omega) (by omega) fun b o _ c1 _ _ _=>AV c1 (Ah fun J64 h64=>?_))
    have k64:J64 ((gd G (i:Nat)).size+stN S hs (gd G (i:Nat)).came S.length) s57:=by
     rw [h64]
     intro _
     rw [← hnN]
     refine AF (fun a=>?_) (fun a=>k34 A n c _ b2 _ hsb2 hoX2 ?_)
     ·refine ⟨_,b2,hoX2,AY (by show (nIz D).length+1<=_;rw [IG];omega) fun A68 n68 c68 s69 ho69=>k34 _ _ _ _ b2 _ hsb2 ho69 ?_⟩
      rw [hstep,decide_eq_true a]
      refine List.Perm.symm ((XN hadd).trans ?_)
      unfold nIz
      rw [List.map_append]
      exact List.Perm.refl _
     ·rw [hstep,decide_eq_false a,hset0,hD]
      exact List.Perm.refl _
    clear h64 k34
    have hgi:=hv.g _ (List.getElem_mem hi)
    rw [← Hv hi] at hgi
    have hQl:(Q.map NRow.g).length=S.length:=by rw [List.length_map,hPS.1]
    refine ⟨fun q n i' τ=>∃ j:Nat,q=S.length-j/\n=(gd G (i:Nat)).size+stN S hs (gd G (i:Nat)).came j/\i'=j/\j<=S.length/\τ=s57,⟨_,0,rfl,by simp [stN],rfl,by omega,rfl⟩,?_⟩
    rintro q n' i' t' ⟨j,rfl,rfl,rfl,hj,rfl⟩ _
    have hlS:((List.length (Q.map NRow.g):Nat):Int)=S.length:=by rw [hQl]
    refine AF (fun hlt2=>?_) (fun hlt2=>?_)
    ·have hlt2:(j:Int)<(((Q.map NRow.g).length:Nat):Int):=hlt2
     have hjl:j<S.length:=by omega
     have hb1:=VI hvS (hs:=hs) (t:=(gd G (i:Nat)).came) (j+1) (by omega)
     have hSz:((Q.map NRow.g)[j]'(by omega)).2.1=(gd S (j:Nat)).size:=by
      rw [List.getElem_map,Hv hjl]
      exact (hPS.2 j hjl (by rw [hPS.1];exact hjl)).s
     have hjQ:j<(Q.map NRow.g).length:=by omega
     have hjQ2:(j:Int)<(((Q.map NRow.g).length:Nat):Int):=by omega
     refine Ah fun J78 h78=>⟨by omega,hjQ2,Aah (by rw [Int.toNat_natCast];exact hjQ) (Ah fun J86 h86=>?_)⟩
     have k86:∀ t,t=decide (gt hs (j:Nat)<0∨(gd G (i:Nat)).came<=gt hs (j:Nat))->J86 t t':=by
      rintro t rfl
      rw [h86]
      intro _
      have k78:J78 ((gd G (i:Nat)).size+stN S hs (gd G (i:Nat)).came (j+1)) t':=by
       rw [h78]
       intro _
       exact AS (by omega) (Be _ (by omega) ⟨j+1,rfl,rfl,by omega,by omega,rfl⟩)
      unfold stN at k78 hb1
      refine AF (fun a=>?_) (fun a=>?_)
      ·rw [if_pos a] at k78 hb1
       show wk .i64 ((gd G (i:Nat)).size+stN S hs (gd G (i:Nat)).came j+((Q.map NRow.g)[j]'hjQ:GRow).2.1) _
       rw [hSz]
       refine AS (by omega) ?_
       rw [Int.add_assoc]
       exact k78
      ·rw [if_neg a,Int.add_zero] at k78
       exact k78
     clear h86 h78
     refine EJ hrH (by omega) (by omega) (AF (fun a=>k86 _ (by rw [decide_eq_true (.inl a)])) (fun a=>EJ hrH (by omega) (by omega) (Bu (hs57 _ _ hg12) rfl (he57.gix (by omega) (by omega) fun b o c0 _ _ _ _=>AV c0 (k86 _ ?_)))))
     exact decide_eq_decide.2 ⟨fun x=>.inr x,fun x=>by omega⟩
    ·have hlt2:¬ (j:Int)<(((Q.map NRow.g).length:Nat):Int):=hlt2
     obtain rfl:j=S.length:=by omega
     exact k64
   clear h44
   refine ⟨fun q xs i' τ=>∃ j:Nat,q=D.length-j/\xs=(Q.take j).map NRow.g/\i'=j/\j<=D.length/\τ=s41,⟨_,Fi.2 ⟨0,rfl,rfl,rfl,by omega,rfl⟩⟩,?_⟩
   rintro q xs i' t' ⟨j,rfl,rfl,rfl,hj,rfl⟩ _
   refine AF (fun hlt2=>?_) (fun hlt2=>?_)
   ·have hjl:j<D.length:=by omega
    have hDj:=(hAm _).1 (List.getElem_mem hjl)
    refine EJ hoY.RdI (by omega) (by rw [IG];omega) ?_
    rw [Ub hjl]
    refine AG (Bu hNd.b rfl (AaW hNd.ps (by omega) fun q hq=>AY ?_ (AS (by omega) (Be _ (by omega) ⟨j+1,rfl,?_,by omega,by omega,rfl⟩))))
    ·show ((Q.take j).map NRow.g).length+1<=_
     rw [List.length_map,List.length_take]
     omega
    ·rw [List.take_succ_eq_append_getElem (by omega),List.map_append]
     congr 1
     have e1:=hPe j hjl (by omega)
     have e2:P.getD D[j] nr0=P[D[j]]'(by omega):=by simp [List.getD,show D[j]<P.length by omega]
     rw [e2,hq] at e1
     rw [e1]
     rfl
   ·obtain rfl:j=D.length:=by omega
    rw [← hPlen,List.take_length]
    exact k44
  ·obtain rfl:k=G.length:=by omega
   rw [h22]
   intro _
   refine AW (aV 49) (KQ _ _ _ _ _ _ hoX (by omega)) ?_
   rintro v s25 ⟨_,hoY⟩
   have hoY:Ak 3 aM β A n c (nIz (AX (g.admF G m G.length))) s25:=(congrArg (fun z:List Int=>Ak 3 aM β A n c z s25) hsX).mp hoY
   refine Al ⟨⟨A,n,c⟩,by rw [eE];rfl,hsσ.trans (hsβ.trans hoY.sub),?_⟩
   have:g.admits G m=nIz (AX (g.admF G m G.length)):=if_pos eE
   rw [this]
   exact hoY.RdI
 clear h10
 refine ⟨fun q xs i τ=>∃ k:Nat,q=G.length-k/\xs=idl k/\i=k/\k<=G.length/\τ=σ2,⟨_,Fi.2 ⟨0,rfl,rfl,rfl,by omega,rfl⟩⟩,?_⟩
 rintro q xs i τ ⟨k,rfl,rfl,rfl,hk,rfl⟩ _
 refine AF (fun hlt=>?_) (fun hlt=>?_)
 ·refine AY (by show (idl k).length+1<=_;rw [NJ];omega) (AS (by omega) (Be _ (by omega) ⟨k+1,rfl,Yo,by omega,by omega,rfl⟩))
 ·obtain rfl:k=G.length:=by omega
  exact k10
end
end Go.Proofs.YtoelhdjloaknbaaGreat
