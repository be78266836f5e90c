/- What this claim rests on. -/
import Derived.Test.YtoelhdjloaknbaaGreatYNa1
namespace Go.Proofs.YtoelhdjloaknbaaGreat
set_option maxRecDepth 100000
open Go.RowKit Go.Proofs.Tryz
def swp2 (xs:List Int) (j:Nat):List Int:=(xs.set (j+1) (gt xs j)).set j (gt xs (j+1:Nat))
def Xx (cf:Int->Int->Int):Nat->List Int->List Int
 | 0,xs=>xs
 | j+1,xs=>if cf (gt xs (j+1:Nat)) (gt xs j)<0 then Xx cf j (swp2 xs j) else xs
def Lm (cf:Int->Int->Int):Nat->List Int->List Int
 | 0,xs=>xs
 | k+1,xs=>Xx cf k (Lm cf k xs)
theorem WO {xs:List Int} {j:Nat}:(swp2 xs j).length=xs.length:=by simp [swp2]
theorem Zo {cf:Int->Int->Int}:∀ (j:Nat) (xs:List Int),(Xx cf j xs).length=xs.length
 | 0,_=>rfl
 | j+1,xs=>by
  unfold Xx
  split
  ·rw [Zo j,WO]
  ·rfl
theorem AaO {cf:Int->Int->Int} {xs:List Int}:∀ k:Nat,(Lm cf k xs).length=xs.length
 | 0=>rfl
 | k+1=>by unfold Lm;rw [Zo,AaO k]
def YS (P:Int->Prop) (xs:List Int):Prop:=∀ i:Nat,i<xs.length->P (gt xs i)
theorem AcT {xs:List Int} {i c:Nat} {v:Int} (hi:i<xs.length):gt (xs.set i v) c=if c=i then v else gt xs c:=by
 unfold gt
 simp only [Int.toNat_natCast,List.getD_eq_getElem?_getD,List.getElem?_set]
 by_cases e:i=c
 ·subst e
  simp [hi]
 ·rw [if_neg e,if_neg (fun h=>e h.symm)]
theorem YS.swp2 {P:Int->Prop} {xs:List Int} (h:YS P xs) {j:Nat} (hj:j+1<xs.length):YS P (swp2 xs j):=by
 intro i hi
 rw [WO] at hi
 unfold Go.Proofs.YtoelhdjloaknbaaGreat.swp2
 rw [AcT (by simp;omega),AcT (by omega)]
 split
 ·exact h _ hj
 ·split
  ·exact h _ (by omega)
  ·exact h _ hi
def Aig (f:Value) (cf:Int->Int->Int) (P:Int->Prop) (s0:Hp):Prop:=∀ τ,Hp.Sub s0 τ->∀ a b,P a->P b->∀ K:Int->Hp->Prop,K (cf a b) τ->cl prog f #[aD a,aD b] τ fun v σ'=>∃ t:Int,(v=aD t/\K t σ')
theorem Aav {s0 σ:Hp} {A:aA} {n c:Nat} {xs:List Int} {f:Value} {cf:Int->Int->Int} {P:Int->Prop} (hf:Aig f cf P s0) (hP:YS P xs) (ho:Ak 3 aM s0 A n c xs σ) (hl:xs.length<=4294967296):
  Ag prog 147 #[aN A n c,aD 0,aD xs.length,f] σ fun _ σ'=>Ak 3 aM s0 A n c (Lm cf (max xs.length 1) xs) σ':=by
 apply DP
 unfold BZ
 refine AL (by omega) ?_
 refine ⟨fun m i σ'=>∃ k:Nat,m=max xs.length 1-k/\i=k/\1<=k/\k<=max xs.length 1/\YS P (Lm cf k xs)/\∃ σ1,Ak 3 aM s0 A n c (Lm cf k xs) σ1/\Hp.Sub σ1 σ',⟨_,1,rfl,rfl,by omega,by omega,hP,σ,ho,Hp.Sub.refl _⟩,?_⟩
 rintro m i σ' ⟨k,rfl,rfl,hk1,hk,hPk,σ1,ho1,hs1⟩ _
 refine Ay (fun hlt=>?_) (fun hlt=>?_)
 ·have hkl:k<xs.length:=by omega
  have hlen:=AaO (cf:=cf) (xs:=xs) k
  refine Ae fun J10 h10=>?_
  have k10:∀ ys σ',ys=Lm cf (k+1) xs->YS P ys->(∃ σ1,Ak 3 aM s0 A n c ys σ1/\Hp.Sub σ1 σ')->J10 σ':=by
   rintro ys σ' rfl hP h
   rw [h10]
   intro _
   exact AL (by omega) (AY _ (by omega) ⟨k+1,rfl,rfl,by omega,by omega,hP,h⟩)
  rw [Lm] at k10
  generalize Lm cf k xs=Z at *
  refine ⟨fun m i σ'=>∃ (j:Nat) (ys:List Int),m=j/\i=j/\j<xs.length/\ys.length=xs.length/\Xx cf j ys=Xx cf k Z/\YS P ys/\∃ σ1,Ak 3 aM s0 A n c ys σ1/\Hp.Sub σ1 σ',⟨_,k,Z,rfl,rfl,hkl,hlen,rfl,hPk,σ1,ho1,hs1⟩,?_⟩
  rintro m i σ' ⟨j,ys,rfl,rfl,hj,hyl,hins,hPy,σ2,ho2,hs2⟩ _
  refine Ae fun J21 h21=>Ae fun J41 h41=>?_
  have hrd:RdS aM σ' A n ys:=ho2.rd.sub hs2
  have hn:n=xs.length:=by have:=hrd.lenI;omega
  cases m with
  | zero=>
   refine Ay (fun h=>by omega) (fun _=>?_)
   rw [h41]
   exact fun _=>Aei (k10 _ _ hins hPy ⟨σ2,ho2,hs2⟩)
  | succ j=>
   have e1:((j+1:Nat):Int)-1=(j:Nat):=by omega
   refine Ay (fun _=>?_) (fun h=>by omega)
   refine B1 hrd (by omega) (by omega) (AL (by omega) ?_)
   rw [e1]
   refine B1 hrd (by omega) (by omega) (hf _ (ho2.sub.trans hs2) _ _ (hPy _ (by omega)) (hPy _ (by omega)) _ ?_)
   rw [h41]
   intro _
   refine Ay (fun hc=>?_) (fun hc=>k10 ys _ ?_ hPy ⟨σ2,ho2,hs2⟩)
   ·rw [h21]
    intro _
    refine AL (by omega) (AL (by omega) ?_)
    rw [e1]
    refine B1 hrd (by omega) (by omega) (B1 hrd (by omega) (by omega) ?_)
    refine ho2.ix_stI hs2 (by omega) (by omega) fun s3 t3 ho3 hs3=>?_
    refine ho3.ix_stI hs3 (by omega) (by simp;omega) fun s4 t4 ho4 hs4=>?_
    refine AL (by omega) (AY j (by omega) ⟨j,swp2 ys j,rfl,by omega,by omega,by rw [WO,hyl],?_,hPy.swp2 (by omega),s4,?_,hs4⟩)
    ·rw [← hins,Xx,if_pos hc]
    ·simpa [swp2] using ho4
   ·rw [← hins,Xx,if_neg hc]
 ·have:k=max xs.length 1:=by omega
  rw [this] at ho1
  exact BN hs1 ho1
theorem Yp {s0 σ:Hp} {A:aA} {n c:Nat} {xs:List Int} {f:Value} {cf:Int->Int->Int} {P:Int->Prop} (hf:Aig f cf P s0) (hP:YS P xs) (ho:Ak 3 aM s0 A n c xs σ) (hl:xs.length<=19):
  Ag prog 47 #[aN A n c,f] σ fun _ σ'=>Ak 3 aM s0 A n c (Lm cf (max xs.length 1) xs) σ':=by
 apply Gd
 unfold Cz
 have hn:n=xs.length:=ho.len
 subst hn
 refine AZ (aW 90) (R:=fun _ σ'=>Ak 3 aM s0 A xs.length c (Lm cf (max xs.length 1) xs) σ') ?_ fun v σ' h=>Aj h
 apply Gz
 unfold CC
 refine Ae fun J3 h3=>?_
 refine ⟨fun m i j σ'=>i=0/\j=20/\σ'=σ,⟨0,rfl,rfl,rfl⟩,?_⟩
 rintro m i j σ' ⟨rfl,rfl,rfl⟩ _
 refine Ay (fun h=>by omega) (fun _=>?_)
 rw [h3]
 intro _
 refine AZ (aW 147) (Aav hf hP ho (by omega)) fun v σ2 h2=>?_
 refine ⟨fun m i σ'=>i=20/\σ'=σ2,⟨0,rfl,rfl⟩,?_⟩
 rintro m i σ' ⟨rfl,rfl⟩ _
 exact Ay (fun h=>by omega) (fun _=>Aj h2)
def slt (kf:Int->Int) (a b:Int):Prop:=kf a<kf b∨(kf a=kf b/\a<b)
theorem AdM {cf:Int->Int->Int} {kf:Int->Int} {P:Int->Prop} (hcf:∀ a b,P a->P b->(cf a b<0↔kf a<kf b)):∀ (n:Nat) (A:List Int) (x:Int) (R:List Int),A.length=n->A.Pairwise (slt kf)->(∀ a∈A,a<x/\P a)->P x ->
  ∃ B C,A=B++C/\Xx cf A.length (A++x::R)=B++x::(C++R)/\(∀ b∈B,kf b<=kf x)/\∀ c∈C,kf x<kf c:=by
 intro n
 induction n with
 | zero=>
  intro A x R hA _ _ _
  have:A=[]:=List.eq_nil_of_length_eq_zero hA
  subst this
  exact ⟨[],[],rfl,rfl,fun b hb=>(by cases hb),fun c hc=>(by cases hc)⟩
 | succ n ih=>
  intro A x R hA hs hP hx
  obtain ⟨A',y,rfl⟩:∃ A' y,A=A'++[y]:=by
   rcases List.eq_nil_or_concat A with rfl | ⟨A',y,h⟩
   ·simp at hA
   ·exact ⟨A',y,by simpa using h⟩
  have hA':A'.length=n:=by simp at hA;omega
  have hs':=List.pairwise_append.1 hs
  have hy:=hP y (by simp)
  have e1:(A'++[y])++x::R=A'++y::x::R:=by simp
  have e2:(A'++[y]).length=A'.length+1:=by simp
  have g1:gt (A'++y::x::R) A'.length=y:=Zq
  have g2:gt (A'++y::x::R) ((A'.length+1:Nat):Int)=x:=by
   have:=Zq (A:=A'++[y]) (B:=R) (x:=x)
   rw [e1,e2] at this
   exact this
  rw [e1,e2,Xx,g1,g2]
  have hc:=hcf x y hx hy.2
  split
  ·rename_i hlt
   have es:swp2 (A'++y::x::R) A'.length=A'++x::y::R:=by
    unfold swp2
    rw [g1,g2,List.set_append_right _ _ (by omega),List.set_append_right _ _ (by simp)]
    simp
   rw [es]
   obtain ⟨B,C,rfl,h1,h2,h3⟩:=ih A' x (y::R) hA' hs'.1 (fun a ha=>hP a (List.mem_append_left _ ha)) hx
   refine ⟨B,C++[y],by simp,by rw [h1];simp,h2,fun c hc'=>?_⟩
   rcases List.mem_append.1 hc' with h | h
   ·exact h3 c h
   ·rw [List.mem_singleton.1 h];exact hc.1 hlt
  ·rename_i hlt
   refine ⟨A'++[y],[],by simp,by simp,fun b hb=>?_,fun c hc=>(by cases hc)⟩
   have hxy:kf y<=kf x:=by
    rcases Int.lt_or_le (kf x) (kf y) with h | h
    ·exact absurd (hc.2 h) hlt
    ·exact h
   rcases List.mem_append.1 hb with h | h
   ·have:=hs'.2.2 b h y (by simp)
    unfold slt at this
    omega
   ·rw [List.mem_singleton.1 h];exact hxy
def idl (n:Nat):List Int:=(List.range n).map fun i:Nat=>(i:Int)
theorem Afe {n k:Nat} (h:k<n):(idl n).drop k=(k:Int)::(idl n).drop (k+1):=by
 have hl:k<(idl n).length:=by simpa [idl] using h
 rw [List.drop_eq_getElem_cons hl]
 congr 1
 simp [idl]
theorem X0 {cf:Int->Int->Int} {kf:Int->Int} {n:Nat} (hcf:∀ a b:Int,(0<=a/\a<n)->(0<=b/\b<n)->(cf a b<0↔kf a<kf b)):∀ k,k<=n->∃ S,Lm cf k (idl n)=S++(idl n).drop k/\S.length=k/\S.Pairwise (slt kf)/\∀ a,a∈S↔0<=a/\a<k
 | 0,_=>⟨[],by simp [Lm],rfl,List.Pairwise.nil,fun a=>⟨fun h=>(by cases h),fun h=>by omega⟩⟩
 | k+1,hk=>by
  obtain ⟨S,h1,h2,h3,h4⟩:=X0 hcf k (by omega)
  obtain ⟨B,C,hS,hJ,hB,hC⟩:=AdM (P:=fun a=>0<=a/\a<n) (fun a b=>hcf a b) k S k ((idl n).drop (k+1)) h2 h3 (fun a ha=>by have:=(h4 a).1 ha;omega) (by omega)
  refine ⟨B++(k:Int)::C,?_,?_,?_,fun a=>?_⟩
  ·rw [Lm,h1,Afe (by omega)]
   rw [h2] at hJ
   rw [hJ]
   simp
  ·have:=congrArg List.length hS
   simp at this ⊢
   omega
  ·rw [hS] at h3
   obtain ⟨p1,p2,p3⟩:=List.pairwise_append.1 h3
   refine List.pairwise_append.2 ⟨p1,List.pairwise_cons.2 ⟨fun c hc=>.inl (hC c hc),p2⟩,fun b hb c hc=>?_⟩
   rcases List.mem_cons.1 hc with rfl | hc
   ·have:=hB b hb
    have hlt:=((h4 b).1 (by rw [hS];exact List.mem_append_left _ hb)).2
    unfold slt
    omega
   ·exact p3 b hb c hc
  ·have e:a∈B++(k:Int)::C↔a∈S∨a=k:=by
    rw [hS]
    simp only [List.mem_append,List.mem_cons]
    constructor
    ·rintro (h | h | h)
     ·exact .inl (.inl h)
     ·exact .inr h
     ·exact .inl (.inr h)
    ·rintro ((h | h) | h)
     ·exact .inl h
     ·exact .inr (.inr h)
     ·exact .inr (.inl h)
   rw [e,h4 a]
   omega
theorem AaT {cf:Int->Int->Int} {kf:Int->Int} {n:Nat} (hcf:∀ a b:Int,(0<=a/\a<n)->(0<=b/\b<n)->(cf a b<0↔kf a<kf b)):(Lm cf (max (idl n).length 1) (idl n)).Pairwise (slt kf)/\(Lm cf (max (idl n).length 1) (idl n)).length=n/\∀ a,a∈Lm cf (max (idl n).length 1) (idl n)↔0<=a/\a<n:=by
 have hl:(idl n).length=n:=by simp [idl]
 rw [hl]
 rcases Nat.eq_zero_or_pos n with h0 | h0
 ·subst h0
  have:Lm cf (max 0 1) (idl 0)=[]:=rfl
  rw [this]
  exact ⟨List.Pairwise.nil,rfl,fun a=>⟨fun h=>(by cases h),fun h=>by omega⟩⟩
 ·obtain ⟨S,h1,h2,h3,h4⟩:=X0 hcf n (Nat.le_refl _)
  have hd:(idl n).drop n=[]:=by simp [idl]
  rw [hd,List.append_nil] at h1
  rw [show max n 1=n by omega,h1]
  exact ⟨h3,h2,h4⟩
def spQ (c:Int) (ws:List Int) (i:Int):Int:=Int.tdiv (c*gt ws i) (AQ ws)
def spR (c:Int) (ws:List Int) (i:Int):Int:=Int.tmod (c*gt ws i) (AQ ws)
def spB (c:Int) (ws:List Int):List Int:=(List.range ws.length).map fun i:Nat=>spQ c ws i
def spL (c:Int) (ws:List Int):Int:=c-AQ (spB c ws)
def spC (c:Int) (ws:List Int) (a b:Int):Int:=if spR c ws b<spR c ws a then -1 else if spR c ws a<spR c ws b then 1 else 0
def spO (c:Int) (ws:List Int):List Int:=Lm (spC c ws) (max (idl ws.length).length 1) (idl ws.length)
def spK (c:Int) (ws:List Int) (k:Nat):List Int:=(List.range ws.length).map fun i:Nat=>spQ c ws i+if (i:Int)∈(spO c ws).take k then 1 else 0
def W5 (c:Int) (ws:List Int):List Int:=spK c ws (spL c ws).toNat
def WH (ws:List Int):Bool:=decide (1<=ws.length/\ws.length<=10)&&(ws.all fun x=>Inn x 0 1000)&&decide (0<AQ ws)
structure Wgt (ws:List Int):Prop where
 n:1<=ws.length/\ws.length<=10
 w:∀ x∈ws,0<=x/\x<=1000
 s:0<AQ ws
section
variable {c:Int} {ws:List Int}
theorem NT:(spO c ws).Pairwise (slt fun a=>-spR c ws a)/\(spO c ws).length=ws.length/\∀ a,a∈spO c ws↔0<=a/\a<ws.length:=by
 refine AaT fun a b _ _=>?_
 unfold spC
 split
 ·omega
 ·split<;>omega
theorem Fu:∀ {l:List Int},(∀ x∈l,0<=x)->0<=AQ l
 | [],_=>Int.le_refl _
 | x::l,h=>by
  have:=Fu (l:=l) fun y hy=>h y (by simp [hy])
  have:=h x (by simp)
  show 0<=x+AQ l
  omega
theorem E8 {m:Int}:∀ {l:List Int},(∀ x∈l,x<=m)->AQ l<=m*l.length
 | [],_=>by simp [AQ]
 | x::l,h=>by
  have:=E8 (l:=l) fun y hy=>h y (by simp [hy])
  have:=h x (by simp)
  show x+AQ l<=m*((l.length+1:Nat):Int)
  rw [Int.natCast_add,Int.mul_add]
  omega
theorem Ws {m:Int}:∀ {l:List Int},AQ (l.map fun x=>m*x)=m*AQ l
 | []=>by simp [AQ]
 | x::l=>by
  show m*x+AQ (l.map fun x=>m*x)=m*(x+AQ l)
  rw [Ws,Int.mul_add]
theorem Th {α:Type} {f g:α->Int}:∀ {l:List α},AQ (l.map fun x=>f x+g x)=AQ (l.map f)+AQ (l.map g)
 | []=>by simp [AQ]
 | x::l=>by
  show f x+g x+AQ (l.map fun x=>f x+g x)=f x+AQ (l.map f)+(g x+AQ (l.map g))
  rw [Th]
  omega
theorem Ad7 {ws:List Int}:(List.range ws.length).map (fun i:Nat=>gt ws i)=ws:=by
 refine List.ext_getElem (by simp) fun i h1 h2=>?_
 simp only [List.getElem_map,List.getElem_range]
 exact Bw h2
theorem Wgt.at (h:Wgt ws) (i:Int):0<=gt ws i/\gt ws i<=1000:=Aji h.w (by omega) i
theorem Wgt.mul (h:Wgt ws) (hc:0<=c/\c<=1000000000) (i:Int):0<=c*gt ws i/\c*gt ws i<=1000000000000:=by
 have h1:=h.at i
 exact ⟨Int.mul_nonneg hc.1 h1.1,by
  have h2:=Int.mul_le_mul_of_nonneg_right hc.2 h1.1
  omega⟩
theorem Wgt.qr (h:Wgt ws) (hc:0<=c) (i:Int):0<=spQ c ws i/\0<=spR c ws i/\spR c ws i<AQ ws/\AQ ws*spQ c ws i+spR c ws i=c*gt ws i:=by
 have h0:0<=c*gt ws i:=Int.mul_nonneg hc (h.at i).1
 unfold spQ spR
 refine ⟨Int.tdiv_nonneg h0 (by have:=h.s;omega),Int.tmod_nonneg _ h0,Int.tmod_lt_of_pos _ h.s,Int.mul_tdiv_add_tmod _ _⟩
theorem Wgt.left (h:Wgt ws) (hc:0<=c):0<=spL c ws/\spL c ws<ws.length:=by
 have hs:=h.s
 have e1:AQ ((List.range ws.length).map fun i:Nat=>AQ ws*spQ c ws i+spR c ws i)=c*AQ ws:=by
  rw [← Ws,← Ad7 (ws:=ws),List.map_map]
  congr 1
  rw [Ad7]
  exact List.map_congr_left fun i _=>(h.qr hc i).2.2.2
 rw [Th] at e1
 have e2:AQ ((List.range ws.length).map fun i:Nat=>AQ ws*spQ c ws i)=AQ ws*AQ (spB c ws):=by
  unfold spB
  rw [← Ws,List.map_map]
  rfl
 rw [e2] at e1
 have h1:0<=AQ ((List.range ws.length).map fun i:Nat=>spR c ws i):=Fu fun x hx=>by
  obtain ⟨i,_,rfl⟩:=List.mem_map.1 hx
  exact (h.qr hc i).2.1
 have h2:=E8 (m:=AQ ws-1) (l:=(List.range ws.length).map fun i:Nat=>spR c ws i) fun x hx=>by
  obtain ⟨i,_,rfl⟩:=List.mem_map.1 hx
  have:=(h.qr hc i).2.2.1
  omega
 rw [List.length_map,List.length_range] at h2
 unfold spL
 generalize AQ ((List.range ws.length).map fun i:Nat=>spR c ws i)=R at *
 generalize AQ (spB c ws)=Q at *
 generalize AQ ws=S at *
 have e3:S*(c-Q)=R:=by rw [Int.mul_sub,Int.mul_comm S c];omega
 have hn:=h.n
 constructor
 ·rcases Int.lt_or_le (c-Q) 0 with h4 | h4
  ·have:=Int.mul_neg_of_pos_of_neg hs h4
   omega
  ·exact h4
 ·rcases Int.lt_or_le (c-Q) ws.length with h4 | h4
  ·exact h4
  ·have:=Int.mul_le_mul_of_nonneg_left h4 (Int.le_of_lt hs)
   have h5:(S-1)*(ws.length:Int)<S*ws.length:=Int.mul_lt_mul_of_pos_right (by omega) (by omega)
   omega
theorem Hq {k:Nat}:(spK c ws k).length=ws.length:=by simp [spK]
theorem AfJ:spK c ws 0=spB c ws:=by
 unfold spK spB
 exact List.map_congr_left fun i _=>by simp
theorem Ym {k i:Nat} (h:i<(spK c ws k).length):(spK c ws k)[i]=spQ c ws i+if (i:Int)∈(spO c ws).take k then 1 else 0:=by
 have hi:i<ws.length:=by rw [Hq] at h;exact h
 have e:(spK c ws k)[i]? = some (spQ c ws i+if (i:Int)∈(spO c ws).take k then 1 else 0):=by
  unfold spK
  rw [List.getElem?_map,List.getElem?_range hi]
  rfl
 rw [List.getElem?_eq_getElem h] at e
 exact Option.some.inj e
theorem Abm {k i:Nat} (h:i<ws.length):gt (spK c ws k) i=spQ c ws i+if (i:Int)∈(spO c ws).take k then 1 else 0:=by
 rw [Bw (by rw [Hq];exact h),Ym]
theorem AbU {k:Nat} (hk:k<ws.length):∃ b:Nat,b<ws.length/\gt (spO c ws) k=b/\¬ (b:Int)∈(spO c ws).take k/\∀ j:Nat,j<ws.length->¬ (j:Int)∈(spO c ws).take k->spR c ws j<spR c ws b∨spR c ws j=spR c ws b/\b<=j:=by
 obtain ⟨h1,h2,h3⟩:=NT (c:=c) (ws:=ws)
 have hk':k<(spO c ws).length:=by omega
 have hm:=(h3 _).1 (List.getElem_mem hk')
 refine ⟨((spO c ws)[k]).toNat,by omega,by rw [Bw hk'];omega,?_,fun j hj hn=>?_⟩
 ·rw [Int.toNat_of_nonneg hm.1]
  intro hc
  obtain ⟨m,hm',e⟩:=List.getElem_of_mem hc
  rw [List.length_take] at hm'
  rw [List.getElem_take] at e
  have:=List.pairwise_iff_getElem.1 h1 m k (by omega) hk' (by omega)
  rw [e] at this
  unfold slt at this
  omega
 ·obtain ⟨m,hm',e⟩:=List.getElem_of_mem ((h3 j).2 ⟨by omega,by omega⟩)
  rw [Int.toNat_of_nonneg hm.1]
  have hkm:k<=m:=by
   rcases Nat.lt_or_ge m k with h4 | h4
   ·refine absurd ?_ hn
    rw [← e]
    exact List.mem_take_iff_getElem.2 ⟨m,by omega,rfl⟩
   ·exact h4
  rcases Nat.lt_or_eq_of_le hkm with h4 | h4
  ·have:=List.pairwise_iff_getElem.1 h1 k m hk' hm' h4
   rw [e] at this
   unfold slt at this
   dsimp only at this
   omega
  ·subst h4
   rw [e]
   exact .inr ⟨rfl,by omega⟩
theorem Zc {l:List Int} {k:Nat} {x:Int} (hk:k<l.length):x∈l.take (k+1)↔x∈l.take k∨x=gt l k:=by
 rw [List.take_succ_eq_append_getElem hk,List.mem_append,List.mem_singleton,Bw hk]
theorem Yz {k b:Nat} (hk:k<ws.length) (hb:gt (spO c ws) k=b) (_:¬ (b:Int)∈(spO c ws).take k):(spK c ws k).set b (spQ c ws b+1)=spK c ws (k+1):=by
 refine List.ext_getElem (by simp [spK]) fun i h1 h2=>?_
 rw [Hq] at h2
 rw [List.getElem_set,Ym,Ym]
 have ht:=Zc (l:=spO c ws) (k:=k) (x:=(i:Int)) (by have:=(NT (c:=c) (ws:=ws)).2.1;omega)
 rw [hb] at ht
 by_cases e:b=i
 ·subst e
  rw [if_pos rfl,if_pos (ht.2 (.inr rfl))]
 ·rw [if_neg e]
  congr 1
  by_cases e2:(i:Int)∈(spO c ws).take k
  ·rw [if_pos e2,if_pos (ht.2 (.inl e2))]
  ·rw [if_neg e2,if_neg (fun h=>by rcases ht.1 h with h | h;exact e2 h;omega)]
theorem AaR (h:Wgt ws):∀ k:Nat,k<=ws.length->AQ (spK c ws k)=AQ (spB c ws)+k
 | 0,_=>by rw [AfJ];omega
 | k+1,hk=>by
  obtain ⟨b,hb,e,hn,_⟩:=AbU (c:=c) (ws:=ws) (k:=k) (by omega)
  have hl:b<(spK c ws k).length:=by rw [Hq];exact hb
  rw [← Yz (by omega) e hn,Wb hl,AaR h k (by omega),← Bw hl,Abm hb,if_neg hn]
  omega
theorem Aee (h:Wgt ws) (hc:0<=c):AQ (W5 c ws)=c:=by
 have:=h.left hc
 unfold W5
 rw [AaR h _ (by omega)]
 unfold spL at *
 omega
theorem ZM:(W5 c ws).length=ws.length:=Hq
end
def Pu (c:Int) (ws:List Int):Int:=if Inn c 0 1000000000=true then if WH ws=true then 0 else 110 else 1
theorem Wgt.of {ws:List Int} (h:WH ws=true):Wgt ws:=by
 unfold WH at h
 rw [Bool.and_eq_true,Bool.and_eq_true,decide_eq_true_eq,decide_eq_true_eq,List.all_eq_true] at h
 exact ⟨h.1.1,fun x hx=>of_decide_eq_true (h.1.2 x hx),h.2⟩
def SmI (xs:List Int):Prop:=xs.length<=4294967296/\∀ x∈xs,-2147483648<=x/\x<=2147483648
theorem Acw {m:Int}:∀ {l:List Int},(∀ x∈l,m<=x)->m*l.length<=AQ l
 | [],_=>by simp [AQ]
 | x::l,h=>by
  have:=Acw (l:=l) fun y hy=>h y (by simp [hy])
  have:=h x (by simp)
  show m*((l.length+1:Nat):Int)<=x+AQ l
  rw [Int.natCast_add,Int.mul_add]
  omega
theorem SmI.take {xs:List Int} (h:SmI xs) (k:Nat):-9223372036854775808<=AQ (xs.take k)/\AQ (xs.take k)<=9223372036854775808:=by
 have hl:(xs.take k).length<=xs.length:=by rw [List.length_take];omega
 have h1:=E8 (m:=2147483648) (l:=xs.take k) fun x hx=>(h.2 x (List.mem_of_mem_take hx)).2
 have h2:=Acw (m:=-2147483648) (l:=xs.take k) fun x hx=>(h.2 x (List.mem_of_mem_take hx)).1
 have:=h.1
 have h1:AQ (xs.take k)<=2147483648*(xs.take k).length:=h1
 have h2:-2147483648*((xs.take k).length:Int)<=AQ (xs.take k):=h2
 omega
section
variable {σ:Hp}
theorem Adf {n lo hi:Int}:Ag prog 211 #[aD n,aD lo,aD hi] σ fun v σ'=>v=.bool (Inn n lo hi)/\σ'=σ:=by
 apply Pm
 unfold Gg Inn
 refine Ay (fun a=>Aj ⟨?_,rfl⟩) (fun a=>Aj ⟨?_,rfl⟩)
 ·congr 1
  exact decide_eq_decide.2 ⟨fun b=>⟨a,b⟩,fun b=>b.2⟩
 ·congr 1
  symm
  exact decide_eq_false fun b=>a b.1
theorem AeI {n lo hi:Int} {K:Bool->Hp->Prop} (h:K (Inn n lo hi) σ):aC 211 #[aD n,aD lo,aD hi] σ fun v σ'=>∃ t:Bool,(v=.bool t/\K t σ'):=clB (aW 211) Adf h
theorem X4 {n:Int}:Ag prog 160 #[aD n] σ fun v σ'=>v=.bool (Inn n 0 1000000000)/\σ'=σ:=by
 refine Pt _ _ _ ?_
 unfold Gj
 exact AeI (Aj ⟨rfl,rfl⟩)
theorem Ab8 {A:aA} {n c:Nat} {xs:List Int} (h:RdS aM σ A n xs) (hs:SmI xs) (hm:AQ xs<=4611686018427387904):Ag prog 214 #[aN A n c] σ fun v σ'=>v=aD (AQ xs)/\σ'=σ:=by
 apply T9
 unfold JW
 have hn:=h.lenI
 have hl:=hs.1
 refine Ae fun J3 h3=>?_
 refine ⟨fun q s i τ=>∃ k:Nat,q=xs.length-k/\s=AQ (xs.take k)/\i=k/\k<=xs.length/\τ=σ,⟨_,0,rfl,rfl,rfl,by omega,rfl⟩,?_⟩
 rintro q s i τ ⟨k,rfl,rfl,rfl,hk,rfl⟩ _
 refine Ay (fun hlt=>?_) (fun hlt=>?_)
 ·have hkl:k<xs.length:=by omega
  have e:=HG hkl
  have h1:=hs.take (k+1)
  have hlast:AQ (xs.take (k+1))<=9223372036854775807:=by
   have h2:=E8 (m:=2147483648) (l:=xs.take (k+1)) fun x hx=>(hs.2 x (List.mem_of_mem_take hx)).2
   rcases Nat.lt_or_ge (k+1) xs.length with h4 | h4
   ·have h2:AQ (xs.take (k+1))<=2147483648*(xs.take (k+1)).length:=h2
    rw [List.length_take] at h2
    omega
   ·rw [List.take_of_length_le h4]
    omega
  refine B1 h (by omega) (by omega) ?_
  rw [← e]
  exact AL (by omega) (AL (by omega) (AY _ (by omega) ⟨k+1,rfl,rfl,rfl,by omega,rfl⟩))
 ·obtain rfl:k=xs.length:=by omega
  rw [h3]
  intro _
  refine Aj ⟨?_,rfl⟩
  rw [List.take_length]
theorem R8 {xs:List Int} (hl:xs.length<=10) (h:∀ x∈xs,0<=x/\x<=1000000000):SmI xs/\AQ xs<=4611686018427387904:=by
 refine ⟨⟨by omega,fun x hx=>by have:=h x hx;omega⟩,?_⟩
 have:=E8 (m:=1000000000) (l:=xs) fun x hx=>(h x hx).2
 omega
theorem Aaa {A:aA} {n c:Nat} {ws:List Int} (h:RdS aM σ A n ws) (hl:ws.length<=4294967296):Ag prog 162 #[aN A n c] σ fun v σ'=>v=.bool (WH ws)/\σ'=σ:=by
 apply My
 unfold EI WH
 have hn:=h.lenI
 subst hn
 have e1:Inn (ws.length:Int) 1 10=decide (1<=ws.length/\ws.length<=10):=decide_eq_decide.2 (by omega)
 refine AeI ?_
 rw [e1]
 refine Ay (fun a=>?_) (fun a=>Aj ⟨?_,rfl⟩)
 ·rw [decide_eq_true a,Bool.true_and]
  refine clB (aW 33) (Kl (p:=fun x=>!Inn x 0 1000) h hl fun x _=>Cl.func (aW 213) (KD _ _ _ ?_)) ?_
  ·unfold Dz
   exact AeI (Aj ⟨rfl,rfl⟩)
  have e2:(ws.any fun x=>!Inn x 0 1000)=!(ws.all fun x=>Inn x 0 1000):=by
   rw [List.all_eq_not_any_not]
   simp
  rw [e2]
  refine Bp (fun b=>?_) (fun b=>Aj ⟨?_,rfl⟩)
  ·have b:(ws.all fun x=>Inn x 0 1000)=true:=by simpa using b
   rw [b,Bool.true_and]
   obtain ⟨s1,s2⟩:=R8 a.2 fun x hx=>by
    have:=of_decide_eq_true (List.all_eq_true.1 b x hx)
    omega
   exact clI (aW 214) (Ab8 h s1 s2) (Aj ⟨rfl,rfl⟩)
  ·have b:(ws.all fun x=>Inn x 0 1000)=false:=by simpa using b
   rw [b]
   rfl
 ·rw [decide_eq_false a]
  rfl
theorem AaI {n k:Nat} {f:Nat->Int} {v:Int} (_:k<n):((List.range n).map f).set k v=(List.range n).map fun i=>if i=k then v else f i:=by
 refine List.ext_getElem (by simp) fun i h1 h2=>?_
 rw [List.getElem_set]
 simp only [List.getElem_map,List.getElem_range]
 by_cases e:k=i
 ·subst e
  simp
 ·rw [if_neg e,if_neg (fun x=>e x.symm)]
theorem XO {n:Nat}:(List.replicate n 0:List Int)=(List.range n).map fun _=>(0:Int):=by
 refine List.ext_getElem (by simp) fun i h1 h2=>?_
 simp
def U7 (c:Int) (ws:List Int) (k:Nat):List Int:=(List.range ws.length).map fun i:Nat=>if i<k then spQ c ws i else 0
def Aah (n k:Nat):List Int:=(List.range n).map fun i:Nat=>if i<k then (i:Int) else 0
theorem Ya {c:Int} {ws:List Int} {k:Nat} (hk:k<ws.length):(U7 c ws k).set k (spQ c ws k)=U7 c ws (k+1):=by
 unfold U7
 rw [AaI hk]
 refine List.map_congr_left fun i _=>?_
 by_cases e:i=k
 ·subst e
  rw [if_pos rfl,if_pos (by omega)]
 ·rw [if_neg e]
  by_cases e2:i<k
  ·rw [if_pos e2,if_pos (by omega)]
  ·rw [if_neg e2,if_neg (by omega)]
theorem Adb {n k:Nat} (hk:k<n):(Aah n k).set k (k:Int)=Aah n (k+1):=by
 unfold Aah
 rw [AaI hk]
 refine List.map_congr_left fun i _=>?_
 by_cases e:i=k
 ·subst e
  rw [if_pos rfl,if_pos (by omega)]
 ·rw [if_neg e]
  by_cases e2:i<k
  ·rw [if_pos e2,if_pos (by omega)]
  ·rw [if_neg e2,if_neg (by omega)]
theorem AaH {c:Int} {ws:List Int}:U7 c ws ws.length=spB c ws:=List.map_congr_left fun _ hi=>if_pos (List.mem_range.1 hi)
theorem Afi {n:Nat}:Aah n n=idl n:=List.map_congr_left fun _ hi=>if_pos (List.mem_range.1 hi)
theorem Aeg {c:Int} {ws:List Int}:(List.replicate ws.length 0:List Int)=U7 c ws 0:=by rw [XO];exact List.map_congr_left fun i _=>by simp
theorem Aii {n:Nat}:(List.replicate n 0:List Int)=Aah n 0:=by rw [XO];exact List.map_congr_left fun i _=>by simp
theorem R3 {c:Int} {ws:List Int}:(spB c ws).length=ws.length:=by simp [spB]
theorem Ou {c:Int} {ws:List Int} {k:Nat}:(U7 c ws k).length=ws.length:=by simp [U7]
theorem Af5 {n k:Nat}:(Aah n k).length=n:=by simp [Aah]
theorem Zd {n:Nat}:(idl n).length=n:=by simp [idl]
theorem NS {xs:List Int} {i:Int} {K:Int->Prop} (h0:0<=i) (h1:i<xs.length) (hk:K (gt xs i)):0<=i/\i<(xs.length:Int)/\lat xs i.toNat K:=⟨h0,h1,X9 h0 h1 hk⟩
end
theorem Wgt.qle {c:Int} {ws:List Int} (h:Wgt ws) (hc:0<=c/\c<=1000000000) (i:Int):0<=spQ c ws i/\spQ c ws i<=1000000000000:=by
 obtain ⟨q1,q2,q3,q4⟩:=h.qr hc.1 i
 have h1:=h.mul hc i
 have h2:=h.s
 have:1*spQ c ws i<=AQ ws*spQ c ws i:=Int.mul_le_mul_of_nonneg_right (by omega) q1
 omega
theorem Td:∀ {l:List Int},(∀ x∈l,0<=x)->∀ k:Nat,gt l k<=AQ l
 | [],_,k=>by simp [gt,AQ]
 | x::l,h,0=>by
  have:=Fu (l:=l) fun y hy=>h y (by simp [hy])
  show x<=x+AQ l
  omega
 | x::l,h,k+1=>by
  have h1:=Td (l:=l) (fun y hy=>h y (by simp [hy])) k
  have h2:=h x (by simp)
  show gt l k<=x+AQ l
  omega
theorem Wgt.qlc {c:Int} {ws:List Int} (h:Wgt ws) (hc:0<=c) (i:Nat):spQ c ws i<=c:=by
 obtain ⟨q1,q2,q3,q4⟩:=h.qr hc i
 have h1:=Td (fun x hx=>(h.w x hx).1) i
 have h2:=Int.mul_le_mul_of_nonneg_left h1 hc
 have h3:=h.s
 rcases Int.lt_or_le c (spQ c ws i) with h4 | h4
 ·have h5:AQ ws*(c+1)<=AQ ws*spQ c ws i:=Int.mul_le_mul_of_nonneg_left (by omega) (by omega)
  rw [Int.mul_add,Int.mul_one,Int.mul_comm (AQ ws) c] at h5
  omega
 ·exact h4
theorem Wgt.sumB {c:Int} {ws:List Int} (h:Wgt ws) (hc:0<=c/\c<=1000000000) (k:Nat):0<=AQ ((spB c ws).take k)/\AQ ((spB c ws).take k)<=10000000000000:=by
 have hm:∀ x∈(spB c ws).take k,0<=x/\x<=1000000000000:=fun x hx=>by
  obtain ⟨i,_,rfl⟩:=List.mem_map.1 (List.mem_of_mem_take hx)
  exact h.qle hc i
 have h1:=Fu fun x hx=>(hm x hx).1
 have h2:=E8 (m:=1000000000000) (l:=(spB c ws).take k) fun x hx=>(hm x hx).2
 have hl:((spB c ws).take k).length<=ws.length:=by rw [List.length_take,R3];omega
 have:=h.n
 omega
section
variable {σ:Hp}
theorem Ai3 {x y:Int}:Ag prog 217 #[aD x,aD y] σ fun v σ'=>v=aD (if x<y then -1 else if y<x then 1 else 0)/\σ'=σ:=by
 have hN:∀ z:Int,Ag prog 210 #[aD z] σ fun v σ'=>v=.bool false/\σ'=σ:=by
  intro z
  refine QN _ _ _ ?_
  unfold GS
  exact Aj ⟨by simp,rfl⟩
 refine OF _ _ _ _ ?_
 unfold Fw
 refine clB (aW 210) (hN x) (clB (aW 210) (hN y) (Aei (Aei (Ay (fun a=>Aj ⟨by rw [if_pos a],rfl⟩) (fun a=>Ay (fun b=>Aj ⟨by rw [if_neg a,if_pos b],rfl⟩) (fun b=>Aj ⟨by rw [if_neg a,if_neg b],rfl⟩))))))
structure SpC (c:Int) (ws:List Int) (A:aA) (n k b4 b6 b8:Nat) (σ:Hp):Prop where
 h4:σ b4=some (.cells #[aD c] 3 (0,0),true)
 h6:σ b6=some (.cells #[aN A n k] 26 (0,0),true)
 h8:σ b8=some (.cells #[aD (AQ ws)] 3 (0,0),true)
 r:RdS aM σ A n ws
theorem SpC.sub {c:Int} {ws:List Int} {A:aA} {n k b4 b6 b8:Nat} {σ σ':Hp} (h:SpC c ws A n k b4 b6 b8 σ) (hs:Hp.Sub σ σ'):SpC c ws A n k b4 b6 b8 σ':=⟨hs _ _ h.h4,hs _ _ h.h6,hs _ _ h.h8,h.r.sub hs⟩
def spF (b4 b6 b8:Nat):Value:=.func (.func 215) #[] #[.pointer (some ⟨b4,0,none⟩),.pointer (some ⟨b6,0,none⟩),.pointer (some ⟨b8,0,none⟩)]
theorem Af3 {c:Int} {ws:List Int} {A:aA} {n k b4 b6 b8:Nat} (h:SpC c ws A n k b4 b6 b8 σ) (hw:Wgt ws) (hc:0<=c/\c<=1000000000) {i:Int} (h0:0<=i) (h1:i<ws.length):cl prog (spF b4 b6 b8) #[aD i] σ fun v σ'=>v=aD (spR c ws i)/\σ'=σ:=by
 refine Cl.func (aW 215) (No _ _ _ _ _ _ ?_)
 unfold Fc
 have hm:=hw.mul hc i
 have hs:=hw.s
 exact AD (Bx h.h4 rfl (AD (Bg h.h6 rfl (B1 h.r h0 h1 (AL (by omega) (AD (Bx h.h8 rfl ⟨by omega,Aj ⟨rfl,rfl⟩⟩)))))))
theorem AhB {c:Int} {ws:List Int} {A:aA} {n k b4 b6 b8 b15:Nat} {t:TypeId} (h:SpC c ws A n k b4 b6 b8 σ) (h15:σ b15=some (.cells #[spF b4 b6 b8] t (0,0),true)) (hw:Wgt ws) (hc:0<=c/\c<=1000000000):Aig (.func (.func 216) #[] #[.pointer (some ⟨b15,0,none⟩)]) (spC c ws) (fun a=>0<=a/\a<ws.length) σ:=by
 intro τ hs a b ha hb K hK
 refine Cl.func (aW 216) (Ny _ _ _ _ _ ?_)
 unfold Fr
 have hl:∀ {K:Value->Prop},K (spF b4 b6 b8)->ldV τ b15 0 K:=fun hk=>⟨_,Iy (hs _ _ h15) rfl,hk⟩
 refine AD (hl (AD (hl (Cl.mono (Af3 (h.sub hs) hw hc hb.1 hb.2) ?_))))
 rintro _ _ ⟨rfl,rfl⟩
 refine ⟨_,rfl,Hp.Sub.refl _,Cl.mono (Af3 (h.sub hs) hw hc ha.1 ha.2) ?_⟩
 rintro _ _ ⟨rfl,rfl⟩
 exact ⟨_,rfl,clI (aW 217) Ai3 (Aj ⟨_,rfl,hK⟩)⟩
theorem AeV {c:Int} {ws:List Int} {A:aA} {n k:Nat} (h:RdS aM σ A n ws) (hw:Wgt ws) (hc:0<=c/\c<=1000000000):Ag prog 163 #[aD c,aN A n k] σ (ZR 3 aM σ (W5 c ws)):=by
 apply Ri
 unfold GM
 have hn:=h.lenI
 subst hn
 have hwn:=hw.n
 have hsp:=hw.s
 obtain ⟨s1,s2⟩:=R8 hwn.2 fun x hx=>by have:=hw.w x hx;omega
 refine clI (aW 214) (Ab8 h s1 s2) ⟨by omega,by omega,by omega,by omega,by omega,by omega,?_⟩
 intro b4 h4 b6 h6 b8 h8
 have hB:=(((Bxs.nil (s:=σ)).ins h4 (.cells #[aD c] 3 (0,0))).ins h6 (.cells #[aN A ws.length k] 26 (0,0))).ins h8 (.cells #[aD (AQ ws)] 3 (0,0))
 generalize Hp.ins _ b8 _=s9 at *
 have hC:SpC c ws A ws.length k b4 b6 b8 s9:=⟨hB.at (k:=0) rfl,hB.at (k:=1) rfl,hB.at (k:=2) rfl,h.sub hB.sub⟩
 refine Ae fun J12 h12=>?_
 have k12:J12 (spB c ws) (idl ws.length) s9:=by
  rw [h12]
  intro _ b15 h15
  have hB2:=hB.ins h15 (.cells #[spF b4 b6 b8] 260 (0,0))
  have hs15:=(Blk.nin (⟨h15,rfl⟩:Blk b15 (.cells #[spF b4 b6 b8] 260 (0,0)) s9 _))
  have hg15:s9.ins b15 (.cells #[spF b4 b6 b8] 260 (0,0)) b15=some (.cells #[spF b4 b6 b8] 260 (0,0),true):=Blk.get (⟨h15,rfl⟩:Blk b15 _ s9 _)
  have hC2:=hC.sub hs15
  have hss:Hp.Sub σ (s9.ins b15 (.cells #[spF b4 b6 b8] 260 (0,0))):=hB2.sub
  show exl 3 aM (idl ws.length) (s9.ins b15 (.cells #[spF b4 b6 b8] 260 (0,0))) _
  generalize s9.ins b15 (.cells #[spF b4 b6 b8] 260 (0,0))=s16 at *
  intro A17 n17 c17 s18 ho
  have hall:YS (fun a=>0<=a/\a<ws.length) (idl ws.length):=fun i hi=>by
   rw [Zd] at hi
   rw [Bw (by rw [Zd];exact hi)]
   unfold idl
   rw [List.getElem_map,List.getElem_range]
   omega
  refine AZ (aW 47) (Yp (AhB hC2 hg15 hw hc) hall ho (by rw [Zd];omega)) ?_
  intro v s20 ho20
  have hO:=NT (c:=c) (ws:=ws)
  refine ⟨spO c ws,s16,ho20,Ae fun J25 h25=>Bx hC2.h4 rfl ?_⟩
  intro A30 n30 c30 s31 ho31
  obtain ⟨b1,b2⟩:=R8 (xs:=spB c ws) (by rw [R3];omega) fun x hx=>by
   obtain ⟨i,_,rfl⟩:=List.mem_map.1 hx
   have:=hw.qle hc i
   have:=hw.qlc hc.1 i
   omega
  refine Agt (aW 214) (Ab8 ho31.RdI b1 b2) ⟨spB c ws,s16,ho31,?_⟩
  have hL:=hw.left hc.1
  have hsB:=hw.sumB hc (spB c ws).length
  rw [List.take_length] at hsB
  rw [show c-AQ (spB c ws)=spL c ws from rfl]
  refine AL (by omega) ?_
  have htl:((spO c ws).take (spL c ws).toNat).length=(spL c ws).toNat:=by rw [List.length_take];omega
  refine ⟨by omega,by omega,fun q i xs τ=>∃ m:Nat,q=(spL c ws).toNat-m/\i=m/\m<=(spL c ws).toNat/\xs=spK c ws m/\τ=s16,⟨_,0,rfl,rfl,by omega,AfJ.symm,rfl⟩,?_⟩
  rintro q i xs τ ⟨m,rfl,rfl,hm,rfl,rfl⟩ _
  refine Ay (fun hlt=>?_) (fun hlt=>?_)
  ·have hml:m<(spL c ws).toNat:=by omega
   obtain ⟨bb,e1,e2,e3,_⟩:=AbU (c:=c) (ws:=ws) (k:=m) (by omega)
   have e4:gt ((spO c ws).take (spL c ws).toNat) m=(bb:Nat):=by
    rw [← e2,Bw (by omega),Bw (by omega),List.getElem_take]
   refine NS (by omega) (by omega) ?_
   rw [e4]
   have e5:=Abm (c:=c) (k:=m) e1
   rw [if_neg e3] at e5
   have hq:=hw.qle hc bb
   refine NS (by omega) (by rw [Hq];omega) ?_
   rw [e5]
   refine AL (by omega) (NS (by omega) (by rw [Hq];omega) (AL (by omega) (AY _ (by omega) ⟨m+1,rfl,by omega,by omega,?_,rfl⟩)))
   rw [Int.toNat_natCast,Int.add_zero]
   exact Yz (by omega) e2 e3
  ·obtain rfl:m=(spL c ws).toNat:=by omega
   rw [h25]
   intro _ A27 n27 c27 s28 ho28
   obtain ⟨s29,o1,o2⟩:=Au.less (R:=fun σ σ'=>Ak 3 aM σ A27 n27 c27 (W5 c ws) σ') Au.own ho28 hss
   exact BN o2 ⟨_,_,_,rfl,o1⟩
 refine Bg hC.h6 rfl ?_
 rw [Int.toNat_natCast]
 refine ⟨fun q i xs ys τ=>∃ m:Nat,q=ws.length-m/\i=m/\m<=ws.length/\xs=U7 c ws m/\ys=Aah ws.length m/\τ=s9,⟨_,0,rfl,rfl,by omega,Aeg,Aii,rfl⟩,?_⟩
 rintro q i xs ys τ ⟨m,rfl,rfl,hm,rfl,rfl,rfl⟩ _
 refine Ay (fun hlt=>?_) (fun hlt=>?_)
 ·have hml:m<ws.length:=by omega
  have hmu:=hw.mul hc m
  have hq:=hw.qle hc m
  refine B1 hC.r (by omega) (by omega) (Bx hC.h4 rfl (AL (by omega) (Bx hC.h8 rfl ⟨by omega,?_⟩)))
  show wk .i64 (spQ c ws m) _
  refine AL (by omega) (NS (by omega) (by rw [Ou];omega) (NS (by omega) (by rw [Af5];omega) (AL (by omega) (AY _ (by omega) ⟨m+1,rfl,by omega,by omega,?_,?_,rfl⟩))))
  ·rw [Int.toNat_natCast]
   exact Ya hml
  ·rw [Int.toNat_natCast]
   exact Adb hml
 ·obtain rfl:m=ws.length:=by omega
  rw [AaH,Afi]
  exact k12
end
def Ah5 (s:Int×List Int) (x:Int):Int×List Int:=(s.1-(if s.1<x then s.1 else x),s.2++[if s.1<x then s.1 else x])
def Wa (c:Int) (cl:List Int) (k:Nat):Int×List Int:=(cl.take k).foldl Ah5 (c,[])
def AbQ (c:Int) (cl:List Int):Bool:=Inn c 0 1000000000&&(decide (cl.length<=10)&&cl.all fun x=>Inn x 0 1000000000)
def W6 (c:Int) (cl ws:List Int):Int:=if AbQ c cl=true then if WH ws=true then 0 else 110 else 1
def AhV (c:Int) (cl ws:List Int):List Int:=if W6 c cl ws=0 then (Wa c cl cl.length).2 else []
def Ad9 (c:Int) (cl ws:List Int):List Int:=if W6 c cl ws=0 then W5 (Wa c cl cl.length).1 ws else []
theorem XP {c:Int} {cl:List Int} {k:Nat} (h:k<cl.length):Wa c cl (k+1)=Ah5 (Wa c cl k) (gt cl k):=by
 unfold Wa
 rw [ON h,Bw h]
theorem AcG {c:Int} {cl:List Int} (hc:0<=c/\c<=1000000000) (h:∀ x∈cl,0<=x/\x<=1000000000):∀ k,k<=cl.length->(0<=(Wa c cl k).1/\(Wa c cl k).1<=1000000000)/\(Wa c cl k).2.length=k
 | 0,_=>⟨hc,rfl⟩
 | k+1,hk=>by
  obtain ⟨h1,h2⟩:=AcG hc h k (by omega)
  have h3:=h _ (AbT (cs:=cl) (k:=k) (by omega))
  rw [XP (by omega)]
  unfold Ah5
  refine ⟨?_,by simp [h2]⟩
  dsimp only
  split<;>omega
def Agd (σ:Hp) (c:Int) (cl ws:List Int):aB:=fun v σ'=>∃ s t:SL,v=.tuple #[s.v,t.v,aD (W6 c cl ws)]/\Hp.Sub σ σ'/\RdS aM σ' s.A s.n (AhV c cl ws)/\RdS aM σ' t.A t.n (Ad9 c cl ws)
theorem SC {σ:Hp}:RdS aM σ none 0 []:=(Ak.nil 3 aM σ).rd
theorem Agd.err {σ:Hp} {c:Int} {cl ws:List Int} {e:Int} (h:W6 c cl ws=e) (h0:¬ e=0):Agd σ c cl ws (.tuple #[aN none 0 0,aN none 0 0,aD e]) σ:=by
 have h1:¬ W6 c cl ws=0:=by rw [h];exact h0
 refine ⟨⟨none,0,0⟩,⟨none,0,0⟩,by rw [h];rfl,Hp.Sub.refl _,?_,?_⟩
 ·unfold AhV
  rw [if_neg h1]
  exact SC
 ·unfold Ad9
  rw [if_neg h1]
  exact SC
section
variable {σ:Hp}
theorem Abq {A:aA} {n c:Nat} {xs:List Int} (h:RdS aM σ A n xs) (hl:xs.length<=4294967296):Ag prog 161 #[aN A n c] σ fun v σ'=>v=.bool (xs.all fun x=>Inn x 0 1000000000)/\σ'=σ:=by
 apply NL
 unfold FF
 refine clB (aW 33) (Kl (p:=fun x=>!Inn x 0 1000000000) h hl fun x _=>Cl.func (aW 212) (K3 _ _ _ ?_)) (Aj ⟨?_,rfl⟩)
 ·unfold DU
  exact clB (aW 160) X4 (Aj ⟨rfl,rfl⟩)
 ·rw [List.all_eq_not_any_not]
theorem AdN {c:Int} {A B:aA} {n k m q:Nat} {cl ws:List Int} (hcl:RdS aM σ A n cl) (hws:RdS aM σ B m ws) (hl:ws.length<=4294967296):Ag prog 100 #[aD c,aN A n k,aN B m q] σ (Agd σ c cl ws):=by
 apply Pj
 unfold Gl
 have hn:=hcl.lenI
 refine Ae fun J3 h3=>Ae fun J36 h36=>?_
 have k36:∀ t,t=!AbQ c cl->J36 t σ:=by
  rintro t rfl
  rw [h36]
  intro _
  refine Bp (fun e=>Aj (Agd.err (by unfold W6;rw [e];rfl) (by decide))) (fun e=>?_)
  have eE:W6 c cl ws=if WH ws=true then 0 else 110:=if_pos e
  unfold AbQ at e
  simp only [Bool.and_eq_true,decide_eq_true_eq] at e
  obtain ⟨e1,e2,e3⟩:=e
  have hc:0<=c/\c<=1000000000:=of_decide_eq_true e1
  have hx:∀ x∈cl,0<=x/\x<=1000000000:=fun x hx=>of_decide_eq_true (List.all_eq_true.1 e3 x hx)
  rw [h3]
  intro _
  refine clB (aW 162) (Aaa hws hl) (Bp (fun e4=>Aj (Agd.err (by rw [eE,e4];rfl) (by decide))) (fun e4=>?_))
  rw [e4,if_pos rfl] at eE
  have hw:=Wgt.of e4
  refine Ae fun J10 h10=>?_
  refine ⟨fun q c' A' n' k' i τ=>∃ j:Nat,q=cl.length-j/\c'=(Wa c cl j).1/\i=j/\j<=cl.length/\Ak 3 aM σ A' n' k' (Wa c cl j).2 τ,⟨_,0,rfl,rfl,rfl,by omega,Ak.nil ..⟩,?_⟩
  rintro q c' A' n' k' i τ ⟨j,rfl,rfl,rfl,hj,ho⟩ _
  obtain ⟨i1,i2⟩:=AcG hc hx j hj
  refine Ay (fun hlt=>?_) (fun hlt=>?_)
  ·have hjl:j<cl.length:=by omega
   have hg:=hx _ (AbT (cs:=cl) (k:=j) (by omega))
   have es:=XP (c:=c) hjl
   refine B1 (hcl.sub ho.sub) (by omega) (by omega) ⟨_,σ,ho,Bb (by show (Wa c cl j).2.length+1<=_;omega) (AL (by split<;>omega) (AL (by omega) (AY (cl.length-(j+1)) (by omega) ?_)))⟩
   intro A2 n2 k2 σ2 ho2
   refine ⟨j+1,rfl,by rw [es];rfl,by omega,by omega,?_⟩
   rw [es]
   exact ho2
  ·obtain rfl:j=cl.length:=by omega
   rw [h10]
   intro _
   refine AZ (aW 163) (AeV (hws.sub ho.sub) hw i1) ?_
   rintro v s14 ⟨A15,n15,k15,rfl,ho15⟩
   refine ⟨_,_,_,rfl,Aj ⟨⟨A',n',k'⟩,⟨A15,n15,k15⟩,by rw [eE];rfl,ho.sub.trans ho15.sub,?_,?_⟩⟩
   ·unfold AhV
    rw [if_pos eE]
    exact ho.RdI.sub ho15.sub
   ·unfold Ad9
    rw [if_pos eE]
    exact ho15.RdI
 clear h3 h36
 refine clB (aW 160) X4 (Bp (fun e=>k36 _ ?_) (fun e=>Ay (fun e2=>k36 _ ?_) (fun e2=>clB (aW 161) (Abq hcl (by omega)) (k36 _ ?_))))
 ·unfold AbQ
  rw [e]
  rfl
 ·unfold AbQ
  rw [decide_eq_false (by omega:¬ cl.length<=10)]
  simp
 ·unfold AbQ
  rw [e,decide_eq_true (by omega:cl.length<=10)]
  rfl
def Ad2 (c:Int) (ws:List Int):List Int:=if Pu c ws=0 then W5 c ws else []
def AbZ (σ:Hp) (c:Int) (ws:List Int):aB:=fun v σ'=>∃ s:SL,v=.tuple #[s.v,aD (Pu c ws)]/\Hp.Sub σ σ'/\RdS aM σ' s.A s.n (Ad2 c ws)
theorem Agv {c:Int} {ws:List Int}:W6 c [] ws=Pu c ws/\Ad9 c [] ws=Ad2 c ws:=by
 have h1:W6 c [] ws=Pu c ws:=by
  unfold W6 Pu AbQ
  simp
 refine ⟨h1,?_⟩
 unfold Ad9 Ad2
 rw [h1]
 rfl
theorem Ad8 {c:Int} {B:aA} {m q:Nat} {ws:List Int} (hws:RdS aM σ B m ws) (hl:ws.length<=4294967296):Ag prog 56 #[aD c,aN B m q] σ (AbZ σ c ws):=by
 apply Q1
 unfold G4
 refine AZ (aW 100) (AdN (cl:=([]:List Int)) SC hws hl) ?_
 rintro v σ2 ⟨s,t,rfl,hs,_,ht⟩
 obtain ⟨e1,e2⟩:=Agv (c:=c) (ws:=ws)
 rw [e1]
 rw [e2] at ht
 exact ⟨_,_,_,_,_,_,_,rfl,Aj ⟨t,rfl,hs,ht⟩⟩
theorem AbZ.err {c:Int} {ws:List Int} {e:Int} (h:Pu c ws=e) (h0:¬ e=0):AbZ σ c ws (.tuple #[aN none 0 0,aD e]) σ:=by
 have h1:¬ Pu c ws=0:=by rw [h];exact h0
 refine ⟨⟨none,0,0⟩,by rw [h];rfl,Hp.Sub.refl _,?_⟩
 unfold Ad2
 rw [if_neg h1]
 exact SC
theorem Adq {n lo hi:Int}:Ag prog 165 #[aD n,aD lo,aD hi] σ fun v σ'=>v=.bool (Inn n lo hi)/\σ'=σ:=by
 apply Rv
 unfold Ih Inn
 refine Ay (fun a=>Aj ⟨?_,rfl⟩) (fun a=>Aj ⟨?_,rfl⟩)
 ·congr 1
  exact decide_eq_decide.2 ⟨fun b=>⟨a,b⟩,fun b=>b.2⟩
 ·congr 1
  symm
  exact decide_eq_false fun b=>a b.1
theorem Afs {n lo hi:Int} {K:Bool->Hp->Prop} (h:K (Inn n lo hi) σ):aC 165 #[aD n,aD lo,aD hi] σ fun v σ'=>∃ t:Bool,(v=.bool t/\K t σ'):=clB (aW 165) Adq h
theorem AcZ {n:Int}:Ag prog 102 #[aD n] σ fun v σ'=>v=.bool (Inn n 0 1000000000)/\σ'=σ:=by
 refine Ru _ _ _ ?_
 unfold HZ
 exact Afs (Aj ⟨rfl,rfl⟩)
theorem Aej {A:aA} {n c:Nat} {xs:List Int} (h:RdS aM σ A n xs) (hs:SmI xs) (hm:AQ xs<=4611686018427387904):Ag prog 60 #[aN A n c] σ fun v σ'=>v=aD (AQ xs)/\σ'=σ:=by
 apply WF
 unfold Oy
 have hn:=h.lenI
 have hl:=hs.1
 refine Ae fun J3 h3=>?_
 refine ⟨fun q s i τ=>∃ k:Nat,q=xs.length-k/\s=AQ (xs.take k)/\i=k/\k<=xs.length/\τ=σ,⟨_,0,rfl,rfl,rfl,by omega,rfl⟩,?_⟩
 rintro q s i τ ⟨k,rfl,rfl,rfl,hk,rfl⟩ _
 refine Ay (fun hlt=>?_) (fun hlt=>?_)
 ·have hkl:k<xs.length:=by omega
  have e:=HG hkl
  have h1:=hs.take (k+1)
  have hlast:AQ (xs.take (k+1))<=9223372036854775807:=by
   have h2:=E8 (m:=2147483648) (l:=xs.take (k+1)) fun x hx=>(hs.2 x (List.mem_of_mem_take hx)).2
   rcases Nat.lt_or_ge (k+1) xs.length with h4 | h4
   ·have h2:AQ (xs.take (k+1))<=2147483648*(xs.take (k+1)).length:=h2
    rw [List.length_take] at h2
    omega
   ·rw [List.take_of_length_le h4]
    omega
  refine B1 h (by omega) (by omega) ?_
  rw [← e]
  exact AL (by omega) (AL (by omega) (AY _ (by omega) ⟨k+1,rfl,rfl,rfl,by omega,rfl⟩))
 ·obtain rfl:k=xs.length:=by omega
  rw [h3]
  intro _
  refine Aj ⟨?_,rfl⟩
  rw [List.take_length]
theorem Aab {A:aA} {n c:Nat} {ws:List Int} (h:RdS aM σ A n ws) (hl:ws.length<=65536):Ag prog 103 #[aN A n c] σ fun v σ'=>v=.bool (WH ws)/\σ'=σ:=by
 apply O6
 unfold Gr
 have hn:=h.lenI
 subst hn
 refine Ae fun J3 h3=>?_
 refine ⟨fun q s i τ=>∃ k:Nat,q=ws.length-k/\s=AQ (ws.take k)/\i=k/\k<=ws.length/\τ=σ/\∀ x∈ws.take k,0<=x/\x<=1000,⟨_,0,rfl,rfl,rfl,by omega,rfl,fun x hx=>by simp at hx⟩,?_⟩
 rintro q s i τ ⟨k,rfl,rfl,rfl,hk,rfl,hx⟩ _
 have h1:=Fu fun x hx'=>(hx x hx').1
 have h2:=E8 (m:=1000) (l:=ws.take k) fun x hx'=>(hx x hx').2
 rw [List.length_take] at h2
 refine Ay (fun hlt=>?_) (fun hlt=>?_)
 ·have hkl:k<ws.length:=by omega
  refine B1 h (by omega) (by omega) (Afs (Bp (fun e=>Aj ⟨?_,rfl⟩) (fun e=>B1 h (by omega) (by omega) ?_)))
  ·have:(ws.all fun x=>Inn x 0 1000)=false:=by
    rw [List.all_eq_false]
    exact ⟨_,AbT hkl,by rw [e];decide⟩
   unfold WH
   rw [this]
   simp
  ·have hg:0<=gt ws k/\gt ws k<=1000:=of_decide_eq_true e
   have es:=HG hkl
   rw [← es]
   refine AL (by omega) (AL (by omega) (AY _ (by omega) ⟨k+1,rfl,rfl,rfl,by omega,rfl,fun x hx'=>?_⟩))
   rcases (Zc hkl).1 hx' with h5 | h5
   ·exact hx x h5
   ·rw [h5]
    exact hg
 ·obtain rfl:k=ws.length:=by omega
  rw [List.take_length] at *
  have ha:(ws.all fun x=>Inn x 0 1000)=true:=List.all_eq_true.2 fun x hx'=>decide_eq_true (hx x hx')
  have e1:Inn (ws.length:Int) 1 10=decide (1<=ws.length/\ws.length<=10):=decide_eq_decide.2 (by omega)
  rw [h3]
  intro _
  refine Afs ?_
  rw [e1]
  unfold WH
  rw [ha]
  refine Ay (fun a=>Aj ⟨?_,rfl⟩) (fun a=>Aj ⟨?_,rfl⟩)
  ·rw [decide_eq_true a]
   rfl
  ·rw [decide_eq_false a]
   rfl
end
def S7 (c:Int) (ws:List Int) (k:Nat):List Bool:=(List.range ws.length).map fun i:Nat=>decide ((i:Int)∈(spO c ws).take k)
theorem Nx {c:Int} {ws:List Int} {k:Nat}:(S7 c ws k).length=ws.length:=by simp [S7]
theorem AiP {c:Int} {ws:List Int}:List.replicate ws.length false=S7 c ws 0:=by
 refine List.ext_getElem (by simp [S7]) fun i h1 h2=>?_
 simp [S7]
theorem YU {c:Int} {ws:List Int} {k i:Nat} (h:i<(S7 c ws k).length):(S7 c ws k)[i]=decide ((i:Int)∈(spO c ws).take k):=by
 have hi:i<ws.length:=by rw [Nx] at h;exact h
 have e:(S7 c ws k)[i]? = some (decide ((i:Int)∈(spO c ws).take k)):=by
  unfold S7
  rw [List.getElem?_map,List.getElem?_range hi]
  rfl
 rw [List.getElem?_eq_getElem h] at e
 exact Option.some.inj e
theorem Aen {c:Int} {ws:List Int} {k b:Nat} (hk:k<ws.length) (hb:gt (spO c ws) k=b):(S7 c ws k).set b true=S7 c ws (k+1):=by
 refine List.ext_getElem (by simp [S7]) fun i h1 h2=>?_
 have ht:=Zc (l:=spO c ws) (k:=k) (x:=(i:Int)) (by have:=(NT (c:=c) (ws:=ws)).2.1;omega)
 rw [hb] at ht
 rw [List.getElem_set,YU,YU]
 by_cases e:b=i
 ·subst e
  rw [if_pos rfl,decide_eq_true (ht.2 (.inr rfl))]
 ·rw [if_neg e]
  exact decide_eq_decide.2 ⟨fun h=>ht.2 (.inl h),fun h=>by
   rcases ht.1 h with h | h
   ·exact h
   ·omega⟩
section
variable {σ:Hp}
theorem Ago {c:Int} {ws:List Int} {A:aA} {n k:Nat} (h:RdS aM σ A n ws) (hw:Wgt ws) (hc:0<=c/\c<=1000000000):Ag prog 104 #[aD c,aN A n k] σ (ZR 3 aM σ (W5 c ws)):=by
 apply S4
 unfold JN
 have hn:=h.lenI
 subst hn
 have hwn:=hw.n
 have hsp:=hw.s
 obtain ⟨s1,s2⟩:=R8 hwn.2 fun x hx=>by have:=hw.w x hx;omega
 refine clI (aW 60) (Aej h s1 s2) ⟨by omega,by omega,by omega,by omega,by omega,by omega,Ae fun J6 h6=>?_⟩
 have hL:=hw.left hc.1
 obtain ⟨_,hOl,_⟩:=NT (c:=c) (ws:=ws)
 have k6:J6 (spL c ws) (spB c ws) σ:=by
  rw [h6]
  intro _
  refine Ae fun J11 h11=>?_
  rw [Int.toNat_natCast,AiP (c:=c),← AfJ]
  refine ⟨fun q l xs gs τ=>∃ m:Nat,q=(spL c ws).toNat-m/\l=spL c ws-m/\m<=(spL c ws).toNat/\xs=spK c ws m/\gs=S7 c ws m/\τ=σ,⟨_,0,rfl,by omega,by omega,rfl,rfl,rfl⟩,?_⟩
  rintro q l xs gs τ ⟨m,rfl,rfl,hm,rfl,rfl,rfl⟩ _
  refine Ay (fun hlt=>?_) (fun hlt=>?_)
  ·have hml:m<(spL c ws).toNat:=by omega
   obtain ⟨bb,e1,e2,e3,e4⟩:=AbU (c:=c) (ws:=ws) (k:=m) (by omega)
   refine Ae fun J24 h24=>Ae fun J32 h32=>?_
   have k32:J32 (bb:Nat) τ:=by
    rw [h32]
    intro _
    have e5:=Abm (c:=c) (k:=m) e1
    rw [if_neg e3] at e5
    have hq:=hw.qle hc bb
    refine ⟨by omega,by rw [Nx];omega,?_⟩
    refine Aa9 (by rw [Int.toNat_natCast,Nx];exact e1) (NS (by omega) (by rw [Hq];omega) ?_)
    rw [e5,Int.add_zero]
    refine AL (by omega) (NS (by omega) (by rw [Hq];omega) ?_)
    rw [Int.toNat_natCast,Yz (by omega) e2 e3,Aen (by omega) e2,h24]
    intro _
    exact AL (by omega) (AY _ (by omega) ⟨m+1,rfl,by omega,by omega,rfl,rfl,rfl⟩)
   clear h32 h24
   refine ⟨fun q b i t'=>∃ j:Nat,q=ws.length-j/\i=j/\j<=ws.length/\t'=τ/\((b=-1/\∀ t:Nat,t<j->(t:Int)∈(spO c ws).take m)∨∃ d:Nat,b=d/\d<j/\¬ (d:Int)∈(spO c ws).take m/\∀ t:Nat,t<j->¬ (t:Int)∈(spO c ws).take m->spR c ws t<spR c ws d∨spR c ws t=spR c ws d/\d<=t),⟨_,0,rfl,rfl,by omega,rfl,.inl ⟨rfl,fun t h=>by omega⟩⟩,?_⟩
   rintro q b i t' ⟨j,rfl,rfl,hj,rfl,hst⟩ _
   refine Ay (fun hlt2=>?_) (fun hlt2=>?_)
   ·have hjl:j<ws.length:=by omega
    refine Ae fun J46 h46=>Ae fun J53 h53=>?_
    have k46:∀ b:Int,((b=-1/\∀ t:Nat,t<j+1->(t:Int)∈(spO c ws).take m)∨∃ d:Nat,b=d/\d<j+1/\¬ (d:Int)∈(spO c ws).take m/\∀ t:Nat,t<j+1->¬ (t:Int)∈(spO c ws).take m->spR c ws t<spR c ws d∨spR c ws t=spR c ws d/\d<=t)->J46 b t':=by
     intro b hb
     rw [h46]
     intro _
     exact AL (by omega) (AY _ (by omega) ⟨j+1,rfl,by omega,by omega,rfl,hb⟩)
    clear h46
    have k53:∀ t,(t=true->J46 j t')->(t=false->J46 b t')->J53 t t':=by
     intro t h1 h2
     rw [h53]
     intro _
     exact BR h1 h2
    clear h53
    refine ⟨by omega,by rw [Nx];omega,Aa9 (by rw [Int.toNat_natCast,Nx];exact hjl) ?_⟩
    simp only [Int.toNat_natCast]
    rw [YU]
    refine Bu (fun hno=>?_) (fun hin=>k53 _ (fun x=>(by cases x)) fun _=>k46 _ ?_)
    ·rcases hst with ⟨rfl,hall⟩ | ⟨d,rfl,d1,d2,d3⟩
     ·refine Ay (fun _=>k53 _ (fun _=>k46 _ (.inr ⟨j,rfl,by omega,hno,fun t ht htn=>?_⟩)) fun x=>(by cases x)) (fun x=>absurd (by omega) x)
      rcases Nat.lt_or_ge t j with h1 | h1
      ·exact absurd (hall t h1) htn
      ·obtain rfl:t=j:=by omega
       exact .inr ⟨rfl,Nat.le_refl _⟩
     ·have hm1:=hw.mul hc j
      have hm2:=hw.mul hc d
      refine Ay (fun x=>absurd x (by omega)) (fun _=>B1 h (by omega) (by omega) (AL (by omega) ⟨by omega,B1 h (by omega) (by omega) (AL (by omega) ⟨by omega,k53 _ (fun x=>k46 _ (.inr ⟨j,rfl,by omega,hno,fun t ht htn=>?_⟩)) fun x=>k46 _ (.inr ⟨d,rfl,by omega,d2,fun t ht htn=>?_⟩)⟩)⟩))
      ·have x:spR c ws d<spR c ws j:=of_decide_eq_true x
       rcases Nat.lt_or_ge t j with h1 | h1
       ·have:=d3 t h1 htn
        omega
       ·obtain rfl:t=j:=by omega
        exact .inr ⟨rfl,Nat.le_refl _⟩
      ·have x:¬ spR c ws d<spR c ws j:=of_decide_eq_false x
       rcases Nat.lt_or_ge t j with h1 | h1
       ·exact d3 t h1 htn
       ·obtain rfl:t=j:=by omega
        omega
    ·rcases hst with ⟨rfl,hall⟩ | ⟨d,rfl,d1,d2,d3⟩
     ·refine .inl ⟨rfl,fun t ht=>?_⟩
      rcases Nat.lt_or_ge t j with h1 | h1
      ·exact hall t h1
      ·obtain rfl:t=j:=by omega
       exact hin
     ·refine .inr ⟨d,rfl,by omega,d2,fun t ht htn=>?_⟩
      rcases Nat.lt_or_ge t j with h1 | h1
      ·exact d3 t h1 htn
      ·obtain rfl:t=j:=by omega
       exact absurd hin htn
   ·obtain rfl:j=ws.length:=by omega
    rcases hst with ⟨rfl,hall⟩ | ⟨d,rfl,d1,d2,d3⟩
    ·exact absurd (hall bb e1) e3
    ·have h1:=d3 bb e1 e3
     have h2:=e4 d d1 d2
     obtain rfl:d=bb:=by omega
     exact k32
  ·obtain rfl:m=(spL c ws).toNat:=by omega
   rw [h11]
   intro _ A2 n2 k2 σ2 ho
   exact Aj ⟨_,_,_,rfl,ho⟩
 rw [Int.toNat_natCast,Aeg (c:=c)]
 refine ⟨fun q l i xs τ=>∃ m:Nat,q=ws.length-m/\l=c-AQ ((spB c ws).take m)/\i=m/\m<=ws.length/\xs=U7 c ws m/\τ=σ,⟨_,0,rfl,by simp [AQ],rfl,by omega,rfl,rfl⟩,?_⟩
 rintro q l i xs τ ⟨m,rfl,rfl,rfl,hm,rfl,rfl⟩ _
 refine Ay (fun hlt=>?_) (fun hlt=>?_)
 ·have hml:m<ws.length:=by omega
  have hmu:=hw.mul hc m
  have hq:=hw.qle hc m
  have hsB:=hw.sumB hc (m+1)
  have es:=HG (xs:=spB c ws) (k:=m) (by rw [R3];exact hml)
  have eg:gt (spB c ws) m=spQ c ws m:=by
   rw [Bw (by rw [R3];exact hml)]
   unfold spB
   rw [List.getElem_map,List.getElem_range]
  have eg2:gt (U7 c ws (m+1)) m=spQ c ws m:=by
   rw [Bw (by rw [Ou];exact hml)]
   unfold U7
   rw [List.getElem_map,List.getElem_range,if_pos (by omega)]
  refine B1 h (by omega) (by omega) (AL (by omega) ⟨by omega,?_⟩)
  show wk .i64 (spQ c ws m) _
  refine AL (by omega) (NS (by omega) (by rw [Ou];omega) ?_)
  rw [Int.toNat_natCast,Ya hml]
  refine ⟨by omega,by rw [Ou];omega,?_⟩
  have hl2:m<(U7 c ws (m+1)).length:=by rw [Ou];exact hml
  refine Aa9 hl2 ?_
  rw [← Bw hl2,eg2]
  exact AL (by omega) (AL (by omega) (AY _ (by omega) ⟨m+1,rfl,by omega,by omega,by omega,rfl,rfl⟩))
 ·obtain rfl:m=ws.length:=by omega
  rw [AaH]
  have:(spB c ws).take ws.length=spB c ws:=List.take_of_length_le (by rw [R3];exact Nat.le_refl _)
  rw [this]
  exact k6
theorem Afl {c:Int} {B:aA} {m q:Nat} {ws:List Int} (hws:RdS aM σ B m ws) (hl:ws.length<=65536):Ag prog 59 #[aD c,aN B m q] σ (AbZ σ c ws):=by
 apply Uw
 unfold JC
 refine clB (aW 102) AcZ (Bp (fun e=>Aj (AbZ.err (by unfold Pu;rw [e];rfl) (by decide))) (fun e=>?_))
 have eE:Pu c ws=if WH ws=true then 0 else 110:=if_pos e
 have hc:0<=c/\c<=1000000000:=of_decide_eq_true e
 refine clB (aW 103) (Aab hws hl) (Bp (fun e4=>Aj (AbZ.err (by rw [eE,e4];rfl) (by decide))) (fun e4=>?_))
 rw [e4,if_pos rfl] at eE
 refine AZ (aW 104) (Ago hws (Wgt.of e4) hc) ?_
 rintro v s14 ⟨A15,n15,k15,rfl,ho15⟩
 refine ⟨_,_,_,rfl,Aj ⟨⟨A15,n15,k15⟩,by rw [eE];rfl,ho15.sub,?_⟩⟩
 unfold Ad2
 rw [if_pos eE]
 exact ho15.RdI
end
end Go.Proofs.YtoelhdjloaknbaaGreat
