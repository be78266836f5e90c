/- Trimmed by wip/trim.py to what this claim rests on. -/
import Derived.Test.YtoelhdjloaknbaaGreatVNm2
namespace Go.Proofs.YtoelhdjloaknbaaGreat
set_option maxRecDepth 100000
open Go.RowKit
def nI (l:List Nat):List Int:=l.map fun j:Nat=>(j:Int)
theorem IL (l:List Nat):(nI l).length=l.length:=by simp [nI]
theorem Y7 {l:List Nat} {k:Nat} (h:k<l.length):gt (nI l) k=(l[k]:Nat):=by
 rw [Fp (by rw [IL];exact h)]
 unfold nI
 rw [List.getElem_map]
theorem Jm {α:Type} {p:α->Bool} {xs:List α} {k:Nat} (h:k<xs.length):(xs.take (k+1)).filter p=(xs.take k).filter p++(if p xs[k]=true then [xs[k]] else []):=by
 rw [List.take_succ_eq_append_getElem h,List.filter_append]
 congr 1
 by_cases hp:p xs[k]=true<;>simp [hp]
def AaN (o:Option Nat):Value:=.tuple #[.int .i64 ((o.getD 0:Nat):Int),.bool o.isSome]
section
variable {σ:Hp}
theorem US {A:Option Addr} {n c:Nat} {xs:List Nat} {f:Value} {p:Nat->Bool} (hx:RdS [.int .i64] σ A n (nI xs)) (hl:xs.length<=4294967296) (hf:∀ a∈xs,cl Tryz.prog f #[.int .i64 (a:Nat)] σ fun v σ'=>v=.bool (p a)/\σ'=σ):
  Ae Tryz.prog QH #[.slice A n c,f] σ fun v σ'=>v=AaN (Ma xs p)/\σ'=σ:=by
 refine N6 _ _ _ _ _ _ ?_
 unfold HD
 have hn:n=xs.length:=by rw [← IL];exact hx.lenI
 refine Af fun J3 h3=>?_
 refine ⟨fun q one is i τ=>∃ k:Nat,q=xs.length-k/\i=k/\k<=xs.length/\τ=σ/\(((xs.take k).filter p=[]/\one=0/\is=false)∨∃ a:Nat,(xs.take k).filter p=[a]/\one=(a:Nat)/\is=true),⟨_,0,rfl,rfl,by omega,rfl,.inl ⟨rfl,rfl,rfl⟩⟩,?_⟩
 rintro q one is i τ ⟨k,rfl,rfl,hk,rfl,hst⟩ _
 refine AD (fun hlt=>?_) (fun hlt=>?_)
 ·have hkl:k<xs.length:=by omega
  have hs:=Jm (p:=p) hkl
  refine Af fun J15 h15=>?_
  have k15:∀ o t,(((xs.take (k+1)).filter p=[]/\o=0/\t=false)∨∃ a:Nat,(xs.take (k+1)).filter p=[a]/\o=((a:Nat):Int)/\t=true)->J15 o t τ:=by
   intro o t h
   rw [h15]
   intro _
   exact AP (by omega) (AW _ (by omega) ⟨k+1,rfl,by omega,by omega,rfl,h⟩)
  refine Io hx (by omega) (by rw [IL];omega) ?_
  rw [Y7 hkl]
  refine BO.mono (hf _ (List.getElem_mem hkl)) ?_
  rintro _ _ ⟨rfl,rfl⟩
  refine ⟨_,rfl,BJ (fun hp=>k15 _ _ ?_) (fun hp=>?_)⟩
  ·rw [if_neg (by simp [hp]),List.append_nil] at hs
   rw [hs]
   exact hst
  ·rw [if_pos hp] at hs
   rcases hst with ⟨e1,rfl,rfl⟩ | ⟨a,e1,rfl,rfl⟩
   ·refine TP (k15 _ _ (.inr ⟨xs[k],?_,rfl,rfl⟩))
    rw [hs,e1]
    rfl
   ·refine Aai (Al ⟨?_,rfl⟩)
    have:xs.filter p=a::xs[k]::(xs.drop (k+1)).filter p:=by
     have e2:xs.filter p=(xs.take (k+1)).filter p++(xs.drop (k+1)).filter p:=by rw [← List.filter_append,List.take_append_drop]
     rw [e2,hs,e1]
     rfl
    unfold Ma
    rw [this]
    rfl
 ·obtain rfl:k=xs.length:=by omega
  rw [List.take_length] at hst
  rw [h3]
  intro _
  refine Al ⟨?_,rfl⟩
  unfold Ma
  rcases hst with ⟨e1,rfl,rfl⟩ | ⟨a,e1,rfl,rfl⟩
  ·rw [e1]
   rfl
  ·rw [e1]
   rfl
end
section
variable {σa σ:Hp} {A:Option Addr} {n c:Nat} {xs:List Int} {f:Value} {p:Int->Bool}
def Wy (f:Value) (p:Int->Bool) (xs:List Int) (σa:Hp):Prop:=∀ τ,Hp.Sub σa τ->∀ x∈xs,cl Tryz.prog f #[.int .i64 x] τ fun v σ'=>v=.bool (p x)/\σ'=τ
theorem Rv (hx:RdS [.int .i64] σ A n xs) (hs:Hp.Sub σa σ) (hl:xs.length<=4294967296) (hf:Wy f p xs σa):
  Ae Tryz.prog Cf #[.slice A n c,f] σ fun v σ'=>σ'=σ /\
   ((∃ m:Nat,v=.int .i64 m/\(∃ h:m<xs.length,p xs[m]=true)/\∀ j,(h:j<xs.length)->j<m->p xs[j]=false)∨(v=.int .i64 (-1)/\∀ j,(h:j<xs.length)->p xs[j]=false)):=by
 refine BX _ _ _ _ _ _ ?_
 unfold Bn
 refine Af fun J3 h3=>?_
 have hn:n=xs.length:=hx.lenI
 refine ⟨fun w i τ=>∃ k:Nat,w=xs.length-k/\i=k/\k<=xs.length/\τ=σ/\∀ j,(h:j<xs.length)->j<k->p xs[j]=false,⟨_,0,rfl,rfl,by omega,rfl,fun j _ h=>by omega⟩,?_⟩
 rintro w i τ ⟨k,rfl,rfl,hk,rfl,hj⟩ _
 refine AD (fun hlt=>?_) (fun hlt=>?_)
 ·have hkl:k<xs.length:=by omega
  refine Io hx (by omega) (by omega) ?_
  rw [Fp hkl]
  refine BO.mono (hf _ hs _ (List.getElem_mem hkl)) ?_
  rintro _ _ ⟨rfl,rfl⟩
  refine ⟨_,rfl,CW (fun hp=>Al ⟨rfl,.inl ⟨k,rfl,⟨hkl,hp⟩,hj⟩⟩) (fun hp=>AP (by omega) (AW _ (by omega) ⟨k+1,rfl,by omega,by omega,rfl,fun j h hjk=>?_⟩))⟩
  rcases Nat.lt_or_ge j k with h1 | h1
  ·exact hj j h h1
  ·have:j=k:=by omega
   subst this
   exact hp
 ·have:k=xs.length:=by omega
  subst this
  rw [h3]
  intro _
  exact Al ⟨rfl,.inr ⟨rfl,fun j h=>hj j h h⟩⟩
set_option maxRecDepth 20000 in
theorem IM (ho:Ak 3 [.int .i64] σa A n c xs σ) (hl:xs.length<=4294967296) (hf:Wy f p xs σa):
  Ae Tryz.prog DX #[.slice A n c,f] σ fun v σ'=>∃ m:Nat,v=.slice A m c/\Ak 3 [.int .i64] σa A m c (xs.filter fun x=>!p x) σ':=by
 refine Gu _ _ _ _ _ _ ?_
 unfold B6
 have hn:n=xs.length:=ho.RdI.lenI
 have hnc:n<=c:=ho.capN
 refine AU BK (Rv ho.RdI ho.sub hl hf) ?_
 rintro v σ2 ⟨rfl,(⟨m,rfl,⟨hm,hpm⟩,hj⟩ | ⟨rfl,hj⟩)⟩
 ·refine ⟨_,rfl,AD (fun h=>by omega) (fun _=>Af fun J6 h6=>AP (by omega) ?_)⟩
  have k6:∀ (i:Nat) (τ:Hp) (ys:List Int),i<=xs.length->ys.length=xs.length->ys.take i=xs.filter (fun x=>!p x)->Ak 3 [.int .i64] σa A n c ys τ->J6 i τ:=by
   intro i τ ys hi hys hyf ho'
   rw [h6]
   intro _
   refine ⟨by omega,by omega,?_⟩
   have hfin:∀ σ3,Ak 3 [.int .i64] σa A i c (ys.take i) σ3->0<=((i:Nat):Int)/\((i:Nat):Int)<=((c:Nat):Int)/\rt σ3 (fun v σ'=>∃ m:Nat,v=.slice A m c/\Ak 3 [.int .i64] σa A m c (xs.filter fun x=>!p x) σ') (.slice A i c):=by
    intro σ3 h3
    exact ⟨by omega,by omega,Al ⟨i,rfl,(congrArg (fun z:List Int=>Ak 3 [.int .i64] σa A i c z σ3) hyf).mp h3⟩⟩
   simp only [Int.toNat_natCast]
   have hck:So Tryz.prog 26 3 (List.length [Sh.int .i64])=true:=by kernel_rfl
   have hlt2:0<List.length [Sh.int .i64]:=by show 0<1;omega
   have hin:i<=n:=by omega
   have hbb:∀ b off,A=some ⟨b,off,none⟩->i<n->(if c=i then (A:Option Addr) else (A:Option Addr).map (fun x=>x.add (i*1)))=some ⟨b,off+i*List.length [Sh.int .i64],none⟩:=by
    intro b off hA hlt
    subst hA
    rw [if_neg (by omega)]
    show some (Addr.add ⟨b,off,none⟩ (i*1))=_
    rw [CT]
    rfl
   exact UC hck hlt2 ho' hin hbb hfin
  refine ⟨fun w i j τ=>∃ (i' k:Nat) (ys:List Int),w=xs.length-k/\i=i'/\j=k/\i'<=k/\k<=xs.length/\ys.length=xs.length/\ys.take i'=(xs.take k).filter (fun x=>!p x)/\(∀ t,(h:t<xs.length)->k<=t->gt ys t=xs[t])/\Ak 3 [.int .i64] σa A n c ys τ,
   ⟨_,m,m+1,xs,rfl,rfl,by omega,by omega,by omega,rfl,?_,fun t h _=>Fp h,ho⟩,?_⟩
  ·rw [Jm hm,if_neg (by simp [hpm]),List.append_nil,eq_comm,List.filter_eq_self]
   intro x hx
   obtain ⟨j,hj',rfl⟩:=List.getElem_of_mem hx
   rw [List.length_take] at hj'
   rw [List.getElem_take,hj j (by omega) (by omega)]
   rfl
  rintro w i j τ ⟨i',k,ys,rfl,rfl,rfl,hik,hk,hyl,hyf,hyt,hot⟩ _
  refine AD (fun hlt=>?_) (fun hlt=>?_)
  ·have hkl:k<xs.length:=by omega
   refine Af fun J18 h18=>?_
   refine Io hot.RdI (by omega) (by omega) ?_
   rw [hyt k hkl (Nat.le_refl _)]
   refine BO.mono (hf _ hot.sub _ (List.getElem_mem hkl)) ?_
   rintro _ _ ⟨rfl,rfl⟩
   have hft:=Jm (p:=fun x=>!p x) hkl
   refine ⟨_,rfl,BJ (fun hp=>?_) (fun hp=>?_)⟩
   ·rw [if_pos (by simp [hp])] at hft
    refine hot.ix_stI (Hp.Sub.refl _) (by omega) (by omega) fun σ3 τ3 ho3 hs3=>AP (by omega) ?_
    simp only [Int.toNat_natCast] at ho3
    rw [h18]
    intro _
    refine AP (by omega) (T6 _ (by omega) hs3 ⟨i'+1,k+1,ys.set i' xs[k],rfl,by omega,by omega,by omega,by omega,by simpa using hyl,?_,fun t ht hkt=>?_,ho3⟩)
    ·rw [hft,← hyf,List.take_succ_eq_append_getElem (by simp;omega),List.take_set_of_le (Nat.le_refl _)]
     simp
    ·have:=hyt t ht (by omega)
     rw [← this]
     unfold gt
     simp only [List.getD,List.getElem?_set,Int.toNat_natCast]
     rw [if_neg (by omega)]
   ·rw [if_neg (by simp [hp]),List.append_nil] at hft
    rw [h18]
    intro _
    exact AP (by omega) (AW _ (by omega) ⟨i',k+1,ys,rfl,rfl,by omega,by omega,by omega,hyl,by rw [hft];exact hyf,fun t h hkt=>hyt t h (by omega),hot⟩)
  ·have:k=xs.length:=by omega
   subst this
   rw [List.take_length] at hyf
   exact k6 i' τ ys hik hyl hyf hot
 ·refine ⟨_,rfl,AD (fun _=>Al ⟨n,rfl,?_⟩) (fun h=>absurd rfl h)⟩
  have:(xs.filter fun x=>!p x)=xs:=by
   rw [List.filter_eq_self]
   intro x hx
   obtain ⟨j,hj',rfl⟩:=List.getElem_of_mem hx
   rw [hj j hj']
   rfl
  exact (congrArg (fun z:List Int=>Ak 3 [.int .i64] σa A n c z σ2) this).mpr ho
end
end Go.Proofs.YtoelhdjloaknbaaGreat
namespace Go.Proofs.YtoelhdjloaknbaaGreat
set_option maxRecDepth 100000
open Go.RowKit
theorem K5 {rs:List Rel} {σ0 σ:Hp} {k:Nat} (hp:∀ R∈rs,Av R) (hk:k<rs.length) (h:Lse (A0 rs) σ0 σ):
  ∃ σ1,rs[k] σ1 σ/\Hp.Sub σ0 σ1/\∀ R' σ2 σ',Av R'->R' σ1 σ2->Hp.Sub σ2 σ'->Lse (A0 (rs.set k R')) σ0 σ':=by
 obtain ⟨σ3,h1,h2⟩:=h
 obtain ⟨σ1,h3,h4⟩:=MN hp hk h1
 obtain ⟨σ1',h5,h6⟩:=(hp _ (List.getElem_mem hk)).junk h4 h2
 refine ⟨σ1',h5,(Av.sub (Av.star fun R hR=>hp R (List.mem_of_mem_eraseIdx hR)) h3).trans h6,fun R' σ2 σ' hR' hr hs=>?_⟩
 obtain ⟨σ4,h7,h8⟩:=hR'.less hr h6
 exact ⟨σ4,Qn hp hR' hk h3 h7,h8.trans hs⟩
abbrev VH (s:SL) (xs:List Int):Rel:=fun σ σ'=>Ak 3 [.int .i64] σ s.A s.n s.c xs σ'
abbrev Aad (s:SL) (xs:List Rp):Rel:=fun σ σ'=>Ak 51 sRp σ s.A s.n s.c xs σ'
def No (L s1 s2 sh:SL):Array Value:=#[L.v,.slice none 0 0,s1.v,s2.v,sh.v]
def Ff (b:Nat) (C:Array Value) (s1:SL) (cs:List Int) (s2:SL) (ks:List Int) (sh:SL) (H:List Rp):List Rel:=[Blk b (.cells C 103 (0,0)),VH s1 cs,VH s2 ks,Aad sh H]
section
variable {b:Nat} {C:Array Value} {s1 s2 sh:SL} {cs ks:List Int} {H:List Rp} {σ0 σ:Hp}
theorem F8:∀ R∈Ff b C s1 cs s2 ks sh H,Av R:=by
 intro R hR
 unfold Ff at hR
 simp only [List.mem_cons,List.not_mem_nil,or_false] at hR
 rcases hR with rfl | rfl | rfl | rfl
 ·exact Av.blk
 ·exact Av.own
 ·exact Av.own
 ·exact Av.own
theorem Bj:Av (A0 (Ff b C s1 cs s2 ks sh H)):=Av.star F8
theorem C4 (h:Lse (A0 (Ff b C s1 cs s2 ks sh H)) σ0 σ):σ b=some (.cells C 103 (0,0),true):=by
 obtain ⟨σ1,h1,_⟩:=K5 (k:=0) F8 (by show 0<4;omega) h
 exact Blk.get h1
theorem OB (h:Lse (A0 (Ff b C s1 cs s2 ks sh H)) σ0 σ) {k:Nat} (hk:k<C.size) (v:Value):σ.wr ⟨b,k,none⟩/\Lse (A0 (Ff b (C.setIfInBounds k v) s1 cs s2 ks sh H)) σ0 (σ.put ⟨b,k,none⟩ v):=by
 obtain ⟨σ1,h1,_,h2⟩:=K5 (k:=0) F8 (by show 0<4;omega) h
 obtain ⟨a1,a2,a3⟩:=Blk.st h1 (Hp.Sub.refl _) hk v
 exact ⟨a1,h2 _ _ _ Av.blk a2 a3⟩
theorem S7 (h:Lse (A0 (Ff b C s1 cs s2 ks sh H)) σ0 σ):∃ σ1,VH s1 cs σ1 σ/\Hp.Sub σ0 σ1/\∀ s xs σ',VH s xs σ1 σ'->Lse (A0 (Ff b C s xs s2 ks sh H)) σ0 σ':=by
 obtain ⟨σ1,h1,hs,h2⟩:=K5 (k:=1) F8 (by show 1<4;omega) h
 exact ⟨σ1,h1,hs,fun s xs σ' h=>h2 _ _ _ Av.own h (Hp.Sub.refl _)⟩
theorem Wn (h:Lse (A0 (Ff b C s1 cs s2 ks sh H)) σ0 σ):∃ σ1,VH s2 ks σ1 σ/\Hp.Sub σ0 σ1/\∀ s xs σ',VH s xs σ1 σ'->Lse (A0 (Ff b C s1 cs s xs sh H)) σ0 σ':=by
 obtain ⟨σ1,h1,hs,h2⟩:=K5 (k:=2) F8 (by show 2<4;omega) h
 exact ⟨σ1,h1,hs,fun s xs σ' h=>h2 _ _ _ Av.own h (Hp.Sub.refl _)⟩
theorem Y9 (h:Lse (A0 (Ff b C s1 cs s2 ks sh H)) σ0 σ):∃ σ1,Aad sh H σ1 σ/\Hp.Sub σ0 σ1/\∀ s xs σ',Aad s xs σ1 σ'->Lse (A0 (Ff b C s1 cs s2 ks s xs)) σ0 σ':=by
 obtain ⟨σ1,h1,hs,h2⟩:=K5 (k:=3) F8 (by show 3<4;omega) h
 exact ⟨σ1,h1,hs,fun s xs σ' h=>h2 _ _ _ Av.own h (Hp.Sub.refl _)⟩
theorem Ps (h:Lse (A0 (Ff b C s1 cs s2 ks sh H)) σ0 σ) {b':Nat} {o:Obj} (hb:σ b'=none):∃ σ0',Hp.Sub σ0 σ0'/\σ0' b'=some (o,true)/\Lse (A0 (Ff b C s1 cs s2 ks sh H)) σ0' (σ.ins b' o):=by
 obtain ⟨σ0',h1,h2⟩:=Lse.swap Bj (Av.blk (b:=b') (o:=o)) h (Lse.of ⟨hb,rfl⟩)
 exact ⟨σ0',Lse.sub Av.blk h1,by
  obtain ⟨σx,h3,h4⟩:=h1
  exact h4 _ _ (Blk.get h3),h2⟩
theorem Kv {i:Int} {K:Nat->Nat->Prop} (h0:0<=i) (h1:i<3) (hk:K b (1+i.toNat)):ix (some ⟨b,0+1,none⟩) 3 i 1 K:=by
 refine ⟨h0,h1,?_⟩
 rw [B3,Nat.mul_one]
 exact hk
def Fu (H:List (Nat×Nat×Int)):List Rp:=H.map fun h=>((h.1:Int),(h.2.1:Int),h.2.2)
theorem M2 (H:List (Nat×Nat×Int)):(Fu H).length=H.length:=by simp [Fu]
theorem V3 {H:List (Nat×Nat×Int)} {c a:Nat} {t:Int}:Fu (H++[(c,a,t)])=Fu H++[((c:Int),(a:Int),t)]:=by simp [Fu]
def L7 (b:Nat) (L:SL) (R:List Rp) (w:List Bool) (H:List (Nat×Nat×Int)) (σ0 σ:Hp):Prop:=∃ s1 s2 sh,Lse (A0 (Ff b (No L s1 s2 sh) s1 (nI (wtL (kdR R) w 1)) s2 (nI (wtL (kdR R) w 2)) sh (Fu H))) σ0 σ
theorem W0 {l:List Nat} {c:Nat}:(nI l).filter (fun x=>!decide (x=((c:Nat):Int)))=nI (l.filter fun j=>!(j==c)):=by
 unfold nI
 rw [List.filter_map]
 congr 1
 refine List.filter_congr fun j _=>?_
 show (!decide (((j:Nat):Int)=(c:Nat)))=!(j==c)
 congr 1
 by_cases e:j=c
 ·subst e
  simp
 ·rw [decide_eq_false (by omega)]
  symm
  simpa using e
theorem ST {kd:Nat->Int} {w:List Bool} {c:Nat} {K:Int} (hc:kd c≠K):wtL kd (w.set c false) K=wtL kd w K:=by
 rw [R1,List.filter_eq_self]
 intro j hj
 have:=(Ey.1 hj).2.2
 have:¬ j=c:=fun e=>hc (by rw [← e];exact this)
 simpa using this
end
section
variable {σ:Hp} {b b1 b2:Nat} {L s1 s2 sh:SL} {R:List Rp}
theorem YU {c a:Nat} (h1:σ b1=some (.cells #[.pointer (some ⟨b,0,none⟩)] 100 (0,0),true)) (h2:σ b2=some (.cells #[.int .i64 (c:Nat)] 3 (0,0),true)) (h0:σ.cell? ⟨b,0,none⟩=some L.v) (hR:RdS sRp σ L.A L.n R) (hm:Uf R) (hc:c<R.length) (ha:a<R.length):
  cl Tryz.prog (.func (.func JI) #[] #[.pointer (some ⟨b1,0,none⟩),.pointer (some ⟨b2,0,none⟩)]) #[.int .i64 (a:Nat)] σ fun v σ'=>v=.bool (BZ R c a)/\σ'=σ:=by
 refine BO.func FN (Hb _ _ _ _ _ ?_)
 unfold Cy
 exact AA (Qz h1 rfl (AA (AY h2 rfl (clB C6 (Xg h0 hR hm hc ha) (Al ⟨rfl,rfl⟩)))))
theorem X6 {c a:Nat} (h1:σ b1=some (.cells #[.pointer (some ⟨b,0,none⟩)] 100 (0,0),true)) (h2:σ b2=some (.cells #[.int .i64 (a:Nat)] 3 (0,0),true)) (h0:σ.cell? ⟨b,0,none⟩=some L.v) (hR:RdS sRp σ L.A L.n R) (hm:Uf R) (hc:c<R.length) (ha:a<R.length):
  cl Tryz.prog (.func (.func Kh) #[] #[.pointer (some ⟨b1,0,none⟩),.pointer (some ⟨b2,0,none⟩)]) #[.int .i64 (c:Nat)] σ fun v σ'=>v=.bool (BZ R c a)/\σ'=σ:=by
 refine BO.func F3 (HN _ _ _ _ _ ?_)
 unfold Cn
 exact AA (Qz h1 rfl (AA (AY h2 rfl (clB C6 (Xg h0 hR hm hc ha) (Al ⟨rfl,rfl⟩)))))
theorem YF {x y:Int} (h2:σ b2=some (.cells #[.int .i64 y] 3 (0,0),true)):
  cl Tryz.prog (.func (.func Cx) #[] #[.pointer (some ⟨b2,0,none⟩)]) #[.int .i64 x] σ fun v σ'=>v=.bool (decide (x=y))/\σ'=σ:=by
 refine BO.func FV (Hm _ _ _ _ ?_)
 unfold Co
 exact AA (AY h2 rfl (Al ⟨rfl,rfl⟩))
end
end Go.Proofs.YtoelhdjloaknbaaGreat
namespace Go.Proofs.YtoelhdjloaknbaaGreat
set_option maxRecDepth 100000
open Go.RowKit
section
variable {σ0 σ:Hp} {b:Nat} {L:SL} {R:List Rp} {w:List Bool} {H:List (Nat×Nat×Int)} {t:Int}
def GY (b:Nat) (L:SL) (R:List Rp) (w:List Bool) (H:List (Nat×Nat×Int)) (t:Int) (σ0:Hp):Value->Hp->Prop:=fun v σ'=>
 match nxM (kdR R) (BZ R) w with
 | none=>v=.bool false/\L7 b L R w H σ0 σ'
 | some (c,a)=>v=.bool true/\L7 b L R ((w.set c false).set a false) (H++[(c,a,t)]) σ0 σ'
theorem GY.no (h:nxM (kdR R) (BZ R) w=none) {σ':Hp} (ho:L7 b L R w H σ0 σ'):GY b L R w H t σ0 (.bool false) σ':=by
 unfold GY
 rw [h]
 exact ⟨rfl,ho⟩
theorem GY.yes {c a:Nat} (h:nxM (kdR R) (BZ R) w=some (c,a)) {σ':Hp} (ho:L7 b L R ((w.set c false).set a false) (H++[(c,a,t)]) σ0 σ'):GY b L R w H t σ0 (.bool true) σ':=by
 unfold GY
 rw [h]
 exact ⟨rfl,ho⟩
def Pf (l:List Nat) (c m k:Nat):List Nat:=if k<m then l.filter fun j=>!(j==c) else l
def sl3 (q1 q2:SL) (m:Nat):SL:=if m=0 then ⟨none,0,0⟩ else if m=1 then q1 else q2
def Wk (c a m:Nat):Int:=if m=0 then 0 else if m=1 then (c:Int) else (a:Int)
theorem ZI {q1 q2 sh:SL} {CS AS:List Nat} {c a m b2:Nat} {X:List Rp} {τ σ:Hp} (h:Lse (A0 (Ff b (No L q1 q2 sh) q1 (nI (Pf CS c m 1)) q2 (nI (Pf AS a m 2)) sh X)) τ σ) (hm:m<3) (hC:CS.length<=4294967296) (hA:AS.length<=4294967296) (hb:τ b2=some (.cells #[.int .i64 (Wk c a m)] 3 (0,0),true)):
  Ae Tryz.prog DX #[(sl3 q1 q2 m).v,.func (.func Cx) #[] #[.pointer (some ⟨b2,0,none⟩)]] σ fun v σ'=>∃ s:SL,v=s.v/\Hp.Sub τ σ'/\σ'.wr ⟨b,1+m,none⟩/\σ' b=some (.cells (No L q1 q2 sh) 103 (0,0),true) /\
   ∃ q1' q2',Lse (A0 (Ff b (No L q1' q2' sh) q1' (nI (Pf CS c (m+1) 1)) q2' (nI (Pf AS a (m+1) 2)) sh X)) τ (σ'.put ⟨b,1+m,none⟩ s.v):=by
 have hgo:∀ {xs:List Int} {σa:Hp},Hp.Sub τ σa->Wy (.func (.func Cx) #[] #[.pointer (some ⟨b2,0,none⟩)]) (fun x=>decide (x=Wk c a m)) xs σa:=fun hs τ' hs' x _=>YF (hs' _ _ (hs _ _ hb))
 have h3:m=0∨m=1∨m=2:=by omega
 rcases h3 with rfl | rfl | rfl
 ·have hN:Ak 3 [.int .i64] σ (sl3 q1 q2 0).A (sl3 q1 q2 0).n (sl3 q1 q2 0).c [] σ:=Ak.nil ..
  refine (IM hN (by show 0<=_;omega) (hgo (Lse.sub Bj h))).mono ?_
  rintro v σ' ⟨n,rfl,ho⟩
  have hz:n=0/\σ'=σ:=by
   rcases ho with ⟨_,h1,_,_,h2⟩ | ⟨_,_,_,h1,_⟩
   ·exact ⟨h1,h2⟩
   ·cases h1
  obtain ⟨rfl,rfl⟩:=hz
  obtain ⟨w1,w2⟩:=OB h (k:=1) (by show 1<5;omega) (.slice none 0 0)
  exact ⟨⟨none,0,0⟩,rfl,Lse.sub Bj h,w1,C4 h,q1,q2,w2⟩
 ·obtain ⟨σ1,o1,hs1,o2⟩:=S7 h
  refine (IM o1 (by rw [IL];exact hC) (hgo hs1)).mono ?_
  rintro v σ' ⟨n,rfl,ho⟩
  have hd:(nI (Pf CS c 1 1)).filter (fun x=>!decide (x=Wk c a 1))=nI (Pf CS c (1+1) 1):=W0
  have ho:=(congrArg (fun z:List Int=>Ak 3 [.int .i64] σ1 q1.A n q1.c z σ') hd).mp ho
  have h':=o2 ⟨q1.A,n,q1.c⟩ _ σ' ho
  obtain ⟨w1,w2⟩:=OB h' (k:=2) (by show 2<5;omega) (.slice q1.A n q1.c)
  exact ⟨⟨q1.A,n,q1.c⟩,rfl,Lse.sub Bj h',w1,C4 h',⟨q1.A,n,q1.c⟩,q2,w2⟩
 ·obtain ⟨σ1,o1,hs1,o2⟩:=Wn h
  refine (IM o1 (by rw [IL];exact hA) (hgo hs1)).mono ?_
  rintro v σ' ⟨n,rfl,ho⟩
  have hd:(nI (Pf AS a 2 2)).filter (fun x=>!decide (x=Wk c a 2))=nI (Pf AS a (2+1) 2):=W0
  have ho:=(congrArg (fun z:List Int=>Ak 3 [.int .i64] σ1 q2.A n q2.c z σ') hd).mp ho
  have h':=o2 ⟨q2.A,n,q2.c⟩ _ σ' ho
  obtain ⟨w1,w2⟩:=OB h' (k:=3) (by show 3<5;omega) (.slice q2.A n q2.c)
  exact ⟨⟨q2.A,n,q2.c⟩,rfl,Lse.sub Bj h',w1,C4 h',q1,⟨q2.A,n,q2.c⟩,w2⟩
theorem Z8 (h:L7 b L R w H σ0 σ) (hR:RdS sRp σ0 L.A L.n R) (hm:Uf R) (hw:w.length=R.length) (hl:R.length<=4294967295) (hH:H.length<=4294967295):Ae Tryz.prog LM #[.pointer (some ⟨b,0,none⟩),.int .i64 t] σ (GY b L R w H t σ0):=by
 refine Jb _ _ _ _ ?_
 unfold Dk
 obtain ⟨s1,s2,sh,ho⟩:=h
 have hin:∀ {K:Int},∀ j∈wtL (kdR R) w K,j<R.length:=fun j hj=>by rw [← hw];exact (Ey.1 hj).1
 have hc1:∀ j∈wtL (kdR R) w 1,kdR R j=1:=fun j hj=>(Ey.1 hj).2.2
 have ha1:∀ j∈wtL (kdR R) w 2,kdR R j=2:=fun j hj=>(Ey.1 hj).2.2
 have hnx:nxM (kdR R) (BZ R) w=(wtL (kdR R) w 1).findSome? (nxA (kdR R) (BZ R) w):=rfl
 have hA1:=@VL (kdR R) (BZ R) w
 have hA2:=@Vs (kdR R) (BZ R) w
 have hA3:=@Xj (kdR R) (BZ R) w
 have hd1:∀ {c a:Nat},kdR R c=1->kdR R a=2->wtL (kdR R) ((w.set c false).set a false) 1=(wtL (kdR R) w 1).filter fun j=>!(j==c):=fun {c a} _ e2=>by
  rw [ST (by omega),R1]
 have hd2:∀ {c a:Nat},kdR R c=1->kdR R a=2->wtL (kdR R) ((w.set c false).set a false) 2=(wtL (kdR R) w 2).filter fun j=>!(j==a):=fun {c a} e1 _=>by
  rw [R1,ST (by omega)]
 have hlC:=Pz (kd:=kdR R) (w:=w) (K:=1)
 have hlA:=Pz (kd:=kdR R) (w:=w) (K:=2)
 have fin0:nxM (kdR R) (BZ R) w=none->∀ {σ':Hp},Lse (A0 (Ff b (No L s1 s2 sh) s1 (nI (wtL (kdR R) w 1)) s2 (nI (wtL (kdR R) w 2)) sh (Fu H))) σ0 σ'->GY b L R w H t σ0 (.bool false) σ':=fun e σ' h=>GY.no e ⟨s1,s2,sh,h⟩
 have fin1:∀ {c a:Nat},kdR R c=1->kdR R a=2->nxM (kdR R) (BZ R) w=some (c,a)->∀ {q1 q2 qh:SL} {σ':Hp},Lse (A0 (Ff b (No L q1 q2 qh) q1 (nI ((wtL (kdR R) w 1).filter fun j=>!(j==c))) q2 (nI ((wtL (kdR R) w 2).filter fun j=>!(j==a))) qh (Fu H++[((c:Int),(a:Int),t)]))) σ0 σ'->GY b L R w H t σ0 (.bool true) σ':=by
  intro c a e1 e2 e q1 q2 qh σ' h
  refine GY.yes e ⟨q1,q2,qh,?_⟩
  rw [hd1 e1 e2,hd2 e1 e2,V3]
  exact h
 rw [hnx] at fin0
 have fin1':∀ {k c a:Nat},(hk:k<(wtL (kdR R) w 1).length)->(wtL (kdR R) w 1)[k]=c->(∀ q,(h:q<(wtL (kdR R) w 1).length)->q<k->nxA (kdR R) (BZ R) w (wtL (kdR R) w 1)[q]=none)->nxA (kdR R) (BZ R) w c=some (c,a)->kdR R a=2->∀ {q1 q2 qh:SL} {σ':Hp},Lse (A0 (Ff b (No L q1 q2 qh) q1 (nI ((wtL (kdR R) w 1).filter fun j=>!(j==c))) q2 (nI ((wtL (kdR R) w 2).filter fun j=>!(j==a))) qh (Fu H++[((c:Int),(a:Int),t)]))) σ0 σ'->GY b L R w H t σ0 (.bool true) σ':=by
  intro k c a hk e0 hq e1 e2 q1 q2 qh σ' h
  subst e0
  exact fin1 (hc1 _ (List.getElem_mem hk)) e2 (Y0 hk hq e1) h
 have fin0':(∀ q,(h:q<(wtL (kdR R) w 1).length)->nxA (kdR R) (BZ R) w (wtL (kdR R) w 1)[q]=none)->∀ {σ':Hp},Lse (A0 (Ff b (No L s1 s2 sh) s1 (nI (wtL (kdR R) w 1)) s2 (nI (wtL (kdR R) w 2)) sh (Fu H))) σ0 σ'->GY b L R w H t σ0 (.bool false) σ':=fun e σ' h=>fin0 (Aas e) h
 clear fin0 fin1 hnx hd1 hd2
 have hinC:∀ j∈wtL (kdR R) w 1,j<R.length:=hin
 have hinA:∀ j∈wtL (kdR R) w 2,j<R.length:=hin
 clear hin
 generalize wtL (kdR R) w 1=CS at *
 generalize wtL (kdR R) w 2=AS at *
 generalize nxA (kdR R) (BZ R) w=NA at *
 refine Af fun J3 h3=>AA (Kv (by omega) (by omega) (Bm (C4 ho) rfl ?_))
 have hs1n:s1.n=CS.length:=by
  obtain ⟨_,h1,_⟩:=S7 ho
  have:RdS [.int .i64] σ s1.A s1.n (nI CS):=Ak.rd h1
  rw [← IL]
  exact this.lenI
 have hs0:Hp.Sub σ0 σ:=Lse.sub Bj ho
 refine ⟨fun q p i τ=>∃ (k b1:Nat) (τ0:Hp),q=CS.length-k/\p=some ⟨b1,0,none⟩/\i=k/\k<=CS.length/\Hp.Sub σ0 τ0/\τ0 b1=some (.cells #[.pointer (some ⟨b,0,none⟩)] 100 (0,0),true)/\Lse (A0 (Ff b (No L s1 s2 sh) s1 (nI CS) s2 (nI AS) sh (Fu H))) τ0 τ/\∀ q,(h:q<CS.length)->q<k->NA CS[q]=none,⟨CS.length-0,fun b1 hb1=>?_⟩,?_⟩
 ·obtain ⟨τ0,g1,g2,g3⟩:=Ps ho hb1
  exact ⟨0,b1,τ0,rfl,rfl,rfl,by omega,g1,g2,g3,fun q _ h=>by omega⟩
 rintro q p i τ ⟨k,b1,τ0,rfl,rfl,rfl,hk,hs,hb1,hoτ,hq⟩ _
 refine AD (fun hlt=>?_) (fun hlt=>?_)
 ·have hkl:k<CS.length:=by omega
  have hcm:=List.getElem_mem hkl
  have hcR:=hinC _ hcm
  refine Af fun J19 h19=>?_
  have k19:∀ {τ' τ0':Hp},NA CS[k]=none->Hp.Sub τ0 τ0'->Lse (A0 (Ff b (No L s1 s2 sh) s1 (nI CS) s2 (nI AS) sh (Fu H))) τ0' τ'->J19 τ':=by
   intro τ' τ0' e hs' h'
   rw [h19]
   intro _
   refine AP (by omega) (AW _ (by omega) ⟨k+1,b1,τ0',rfl,rfl,rfl,by omega,hs.trans hs',hs' _ _ hb1,h',fun q hq1 hq2=>?_⟩)
   rcases Nat.lt_or_ge q k with h1 | h1
   ·exact hq q hq1 h1
   ·have:q=k:=by omega
    subst this
    exact e
  clear h19
  have hsub:=Lse.sub Bj hoτ
  have hrd1:RdS [.int .i64] τ s1.A s1.n (nI CS):=by
   obtain ⟨_,h1,_⟩:=S7 hoτ
   exact Ak.rd h1
  refine Io hrd1 (by omega) (by rw [IL];omega) ?_
  rw [Y7 hkl]
  refine AA (Qz (hsub _ _ hb1) rfl (AA (Kv (by omega) (by omega) (Bm (C4 hoτ) rfl ?_))))
  intro b2 hb2
  obtain ⟨τ2,g1,g2,g3⟩:=Ps hoτ hb2
  generalize τ.ins b2 _=τ3 at *
  have hsub3:=Lse.sub Bj g3
  have hrd2:RdS [.int .i64] τ3 s2.A s2.n (nI AS):=by
   obtain ⟨_,h1,_⟩:=Wn g3
   exact Ak.rd h1
  have hRτ:RdS sRp τ3 L.A L.n R:=hR.sub (hs.trans (g1.trans hsub3))
  have hb1':=hsub3 _ _ (g1 _ _ hb1)
  have hb2':=hsub3 _ _ g2
  have h0c:τ3.cell? ⟨b,0,none⟩=some L.v:=Et (C4 g3) rfl
  refine AU FJ (US (p:=BZ R CS[k]) hrd2 (by omega) fun a ha=>YU hb1' hb2' h0c hRτ hm hcR (hinA a ha)) ?_
  rintro _ τ3 ⟨rfl,rfl⟩
  have hone1:∀ a,Ma AS (BZ R CS[k])=some a->a∈AS:=fun a e=>by
   have:=La e
   have h2:a∈AS.filter (BZ R CS[k]):=by rw [this];simp
   exact (List.mem_filter.1 h2).1
  cases e1:Ma AS (BZ R CS[k]) with
  | none=>exact ⟨_,_,rfl,YZ (k19 (hA1 e1) g1 g3)⟩
  | some a=>
  have haA:=hone1 a e1
  have haR:=hinA a haA
  refine ⟨_,_,rfl,UJ (AA (Qz hb1' rfl (AA (Kv (by omega) (by omega) (Bm (C4 g3) rfl ?_)))))⟩
  intro b3 hb3
  obtain ⟨τ4,g4,g5,g6⟩:=Ps g3 hb3
  have hs4:Hp.Sub τ0 τ4:=g1.trans g4
  generalize τ3.ins b3 _=τ5 at *
  have hsub5:=Lse.sub Bj g6
  have hrd5:RdS [.int .i64] τ5 s1.A s1.n (nI CS):=by
   obtain ⟨_,h1,_⟩:=S7 g6
   exact Ak.rd h1
  have hRτ5:RdS sRp τ5 L.A L.n R:=hR.sub (hs.trans (hs4.trans hsub5))
  have hb15:=hsub5 _ _ (hs4 _ _ hb1)
  have hb35:=hsub5 _ _ g5
  have h0c5:τ5.cell? ⟨b,0,none⟩=some L.v:=Et (C4 g6) rfl
  refine AU FJ (US (p:=fun x=>BZ R x a) hrd5 (by omega) fun x hx=>X6 hb15 hb35 h0c5 hRτ5 hm (hinC x hx) haR) ?_
  rintro _ τ5 ⟨rfl,rfl⟩
  cases e2:Ma CS (fun x=>BZ R x a) with
  | none=>exact ⟨_,_,rfl,YZ (k19 (hA2 hcm e1 e2) hs4 g6)⟩
  | some c'=>
  have hfin:=@fin1' k CS[k] a hkl rfl hq (hA3 hcm e1 e2) (ha1 a haA)
  clear k19 fin0' hA1 hA2 hA3
  refine ⟨_,_,rfl,UJ (Af fun J56 h56=>?_)⟩
  have g2':τ4 b2=some (.cells #[.int .i64 (CS[k]:Nat)] 3 (0,0),true):=g4 _ _ g2
  have hb14:=hs4 _ _ hb1
  -- the handing is written down
  have k56:∀ {q1 q2:SL} {τ':Hp},Lse (A0 (Ff b (No L q1 q2 sh) q1 (nI (CS.filter fun j=>!(j==CS[k]))) q2 (nI (AS.filter fun j=>!(j==a))) sh (Fu H))) τ4 τ'->J56 τ':=by
   intro q1 q2 τ' h'
   rw [h56]
   intro _
   have hsub':=Lse.sub Bj h'
   refine Af fun J59 h59=>AA (Qz (hsub' _ _ hb14) rfl (AA (Bm (C4 h') rfl (AY (hsub' _ _ g2') rfl (AY (hsub' _ _ g5) rfl ?_)))))
   obtain ⟨τ6,o1,hs6,o2⟩:=Y9 h'
   have fin:∀ A n c τ7,Ak 51 sRp τ6 A n c (Fu H++[(((CS[k]:Nat):Int),((a:Nat):Int),t)]) τ7->st τ7 b 4 (.slice A n c) J59:=by
    intro A n c τ7 o3
    have h7:=o2 ⟨A,n,c⟩ _ τ7 o3
    obtain ⟨w1,w2⟩:=OB h7 (k:=4) (by show 4<5;omega) (.slice A n c)
    refine ⟨w1,?_⟩
    rw [h59]
    intro _
    exact Al (hfin (q1:=q1) (q2:=q2) (qh:=⟨A,n,c⟩) (Lse.low Bj w2 (hs.trans hs4)))
   have hHl:=M2 H
   refine ⟨AA (Qz (hsub' _ _ hb14) rfl ⟨Fu H,τ6,o1,Bg (by show (Fu H).length+1<=_;omega) (AA fun A n c τ7 o3=>fin A n c τ7 o3)⟩),⟨Fu H,τ6,o1,Bg (by show (Fu H).length+1<=_;omega) (AA (Qz (hs6 _ _ hb14) rfl (AA fun A n c τ7 o3=>fin A n c τ7 o3)))⟩⟩
  refine AY (hsub5 _ _ g2') rfl (AY hb35 rfl ?_)
  refine ⟨fun q i τ'=>∃ (m:Nat) (q1 q2:SL),q=3-m/\i=m/\m<=3/\Lse (A0 (Ff b (No L q1 q2 sh) q1 (nI (Pf CS CS[k] m 1)) q2 (nI (Pf AS a m 2)) sh (Fu H))) τ4 τ',⟨_,0,s1,s2,rfl,rfl,by omega,g6⟩,?_⟩
  rintro q i τ' ⟨m,q1,q2,rfl,rfl,hm3,h'⟩ _
  simp only [Option.getD_some]
  refine AD (fun hlt3=>?_) (fun hlt3=>?_)
  ·have hlt4:((m:Nat):Int)<3:=hlt3
   refine Af fun J97 h97=>⟨by omega,hlt3,?_⟩
   have hml:m<3:=by omega
   have k97:∀ {q1 q2:SL} {τ8 τ9:Hp},Hp.Sub τ4 τ8->Lse (A0 (Ff b (No L q1 q2 sh) q1 (nI (Pf CS CS[k] (m+1) 1)) q2 (nI (Pf AS a (m+1) 2)) sh (Fu H))) τ8 τ9->J97 τ9:=by
    intro q1 q2 τ8 τ9 hs8 h9
    rw [h97]
    intro _
    exact AP (by omega) (AW _ (by omega) ⟨m+1,q1,q2,rfl,by omega,by omega,Lse.low Bj h9 hs8⟩)
   clear h97
   refine TD (by rw [Int.toNat_natCast];exact hml) ?_
   have hnum:∀ {x y:Nat} (hh:((m:Nat):Int).toNat<List.length ([0,(x:Int),(y:Int)]:List Int)),([0,(x:Int),(y:Int)]:List Int)[((m:Nat):Int).toNat]'hh=Wk x y m:=by
    intro x y hh
    simp only [Int.toNat_natCast]
    have h3:m=0∨m=1∨m=2:=by omega
    rcases h3 with rfl | rfl | rfl<;>rfl
   rw [hnum]
   have hsub':=Lse.sub Bj h'
   have hsl:(No L q1 q2 sh)[1+m]? = some (sl3 q1 q2 m).v:=by
    have h3:m=0∨m=1∨m=2:=by omega
    rcases h3 with rfl | rfl | rfl<;>rfl
   refine AA (Qz (hsub' _ _ hb14) rfl (AA (Kv (by omega) (by omega) ?_)))
   rw [Int.toNat_natCast]
   refine Bm (C4 h') hsl ?_
   intro b9 hb9
   obtain ⟨τ8,e8,e9,h8⟩:=Ps h' hb9
   generalize τ'.ins b9 _=τ9 at *
   have hsub8:=Lse.sub Bj h8
   have hdel:=ZI h8 hml (by omega) (by omega) e9
   have hb19:∀ {τ':Hp},Hp.Sub τ8 τ'->τ' b1=some (.cells #[.pointer (some ⟨b,0,none⟩)] 100 (0,0),true):=fun hs=>hs _ _ (e8 _ _ hb14)
   refine ⟨AA (Qz (hb19 hsub8) rfl (AA (AU B9 hdel ?_))),AU B9 hdel ?_⟩
   ·rintro v σ' ⟨s,rfl,hs,w1,_,p1,p2,w2⟩
    refine ⟨_,_,_,rfl,Kv (by omega) (by omega) ?_⟩
    rw [Int.toNat_natCast]
    exact ⟨w1,k97 e8 w2⟩
   ·rintro v σ' ⟨s,rfl,hs,w1,_,p1,p2,w2⟩
    refine ⟨_,_,_,rfl,AA (Qz (hb19 hs) rfl (AA (Kv (by omega) (by omega) ?_)))⟩
    rw [Int.toNat_natCast]
    exact ⟨w1,k97 e8 w2⟩
  ·have hlt4:¬ ((m:Nat):Int)<3:=hlt3
   obtain rfl:m=3:=by omega
   exact k56 h'
 ·obtain rfl:k=CS.length:=by omega
  rw [h3]
  intro _
  exact Al (fin0' (fun q hq1=>hq q hq1 hq1) (Lse.low Bj hoτ hs))
end
end Go.Proofs.YtoelhdjloaknbaaGreat
namespace Go.Proofs.YtoelhdjloaknbaaGreat
set_option maxRecDepth 100000
open Go.RowKit
def Yj (R:List Rp) (i:Nat):Int:=if i=0 then 0 else tmR R (i-1)
theorem VW {R:List Rp} {i:Nat}:Yj R (i+1)=tmR R i:=rfl
def O7 (R:List Rp) (i:Nat):Bool:=Inn (kdR R i) 1 2&&(Inn (rp R i).2.2 0 4095&&Inn (tmR R i) (Yj R i) 4000)
def mtE (R:List Rp):Int:=if 60<R.length then 2 else if (List.range R.length).all (O7 R)=true then 0 else 121
def mtF (R:List Rp) (k:Nat):List Bool×List (Nat×Nat×Int):=mtc (kdR R) (BZ R) (tmR R) R.length k
def mtL (R:List Rp):List Rp:=if mtE R=0 then Fu (mtF R R.length).2 else []
theorem Zo {R:List Rp} (h1:¬ 60<R.length) (h:∀ j,j<R.length->O7 R j=true):mtE R=0:=by
 unfold mtE
 rw [if_neg h1,if_pos (List.all_eq_true.2 fun j hj=>h j (List.mem_range.1 hj))]
theorem YW {R:List Rp} (h1:¬ 60<R.length) {j:Nat} (hj:j<R.length) (h:O7 R j=false):mtE R=121:=by
 unfold mtE
 rw [if_neg h1,if_neg]
 intro hc
 have:=List.all_eq_true.1 hc j (List.mem_range.2 hj)
 rw [h] at this
 cases this
theorem Nl {R:List Rp} {i:Nat} (h:O7 R i=true):(kdR R i=1∨kdR R i=2)/\(0<=(rp R i).2.2/\(rp R i).2.2<=4095)/\Yj R i<=tmR R i/\tmR R i<=4000:=by
 unfold O7 Inn at h
 simp only [Bool.and_eq_true,decide_eq_true_eq] at h
 omega
def MtR (σ:Hp) (R:List Rp):Value->Hp->Prop:=fun v σ'=>∃ s:SL,v=.tuple #[s.v,.int .i64 (mtE R)]/\Hp.Sub σ σ'/\RdS sRp σ' s.A s.n (mtL R)
theorem MtR.err {σ:Hp} {R:List Rp} {e:Int} (h:mtE R=e) (h0:¬ e=0):MtR σ R (.tuple #[.slice none 0 0,.int .i64 e]) σ:=⟨⟨none,0,0⟩,by rw [h];rfl,Hp.Sub.refl _,by
 have:mtL R=[]:=if_neg (by rw [h];exact h0)
 rw [this]
 exact (Ak.nil 51 sRp σ).rd⟩
theorem RV:∀ {w:List Bool} {c:Nat},HB (w.set c true)<=HB w+1
 | x::w,0=>by
  unfold HB
  rw [List.set_cons_zero,List.countP_cons,List.countP_cons]
  split<;>split<;>omega
 | x::w,c+1=>by
  have:=RV (w:=w) (c:=c)
  unfold HB at this ⊢
  rw [List.set_cons_succ,List.countP_cons,List.countP_cons]
  omega
 | [],c=>by simp
theorem Sn {kd:Nat->Int} {n:Nat} {K:Int}:wtL kd (List.replicate n false) K=[]:=by
 unfold wtL
 rw [List.filter_eq_nil_iff]
 intro j hj
 have:(List.replicate n false).getD j false=false:=by
  rw [List.getD_eq_getElem?_getD,List.getElem?_replicate]
  split<;>rfl
 rw [this]
 simp
theorem WH {l:List Nat} {i:Nat}:nI (l++[i])=nI l++[(i:Int)]:=by simp [nI]
section
variable {σ0 σ:Hp} {b:Nat} {L:SL} {R:List Rp} {w:List Bool} {H:List (Nat×Nat×Int)}
theorem L7.new {o:Obj} (ho:o=.cells #[L.v,.slice none 0 0,.slice none 0 0,.slice none 0 0,.slice none 0 0] 103 (0,0)) (hb:σ b=none):L7 b L R (List.replicate R.length false) [] σ (σ.ins b o):=by
 subst ho
 refine ⟨⟨none,0,0⟩,⟨none,0,0⟩,⟨none,0,0⟩,?_⟩
 rw [Sn,Sn]
 exact Lse.of ⟨σ,⟨σ,⟨σ,⟨σ,rfl,Ak.nil ..⟩,Ak.nil ..⟩,Ak.nil ..⟩,hb,rfl⟩
theorem L7.add (h:L7 b L R w H σ0 σ) {i:Nat} (hi:i<w.length) (h0:∀ j,i<=j->w.getD j false=false) (hk:kdR R i=1∨kdR R i=2) (hl:w.length<=4294967295) {J:Hp->Prop} (hJ:∀ τ,L7 b L R (w.set i true) H σ0 τ->J τ):
  ∃ s:SL,(∃ o:Obj,σ b=some (o,true)/\∃ C e f,o=.cells C e f/\C[1+(kdR R i).toNat]? = some s.v)/\adp 3 [.int .i64] s.A s.n s.c σ fun (xs:List Int) σ'=>B0 (List.length xs+List.length ([(i:Int)]:List Int)) (ix (some ⟨b,1,none⟩) 3 (kdR R i) 1 fun b a=>exl 3 [.int .i64] (xs++([(i:Int)]:List Int)) σ' fun A n c σ''=>st σ'' b a (.slice A n c) J):=by
 obtain ⟨s1,s2,sh,ho⟩:=h
 have hw1:=UG (kd:=kdR R) (K:=1) hi h0
 have hw2:=UG (kd:=kdR R) (K:=2) hi h0
 have hl1:=Pz (kd:=kdR R) (w:=w) (K:=1)
 have hl2:=Pz (kd:=kdR R) (w:=w) (K:=2)
 rcases hk with e | e
 ·rw [if_pos e,] at hw1
  rw [if_neg (by omega),List.append_nil] at hw2
  obtain ⟨σ1,o1,hs1,o2⟩:=S7 ho
  refine ⟨s1,⟨_,C4 ho,_,_,_,rfl,by rw [e];rfl⟩,nI (wtL (kdR R) w 1),σ1,o1,Bg (by show (nI _).length+1<=_;rw [IL];omega) ?_⟩
  rw [e]
  refine Kv (by omega) (by omega) fun A n c σ' o3=>?_
  have h3:=o2 ⟨A,n,c⟩ _ σ' o3
  obtain ⟨w1,w2⟩:=OB h3 (k:=2) (by show 2<5;omega) (.slice A n c)
  refine ⟨w1,hJ _ ⟨⟨A,n,c⟩,s2,sh,?_⟩⟩
  rw [hw1,hw2,WH]
  exact w2
 ·rw [if_neg (by omega),List.append_nil] at hw1
  rw [if_pos e] at hw2
  obtain ⟨σ1,o1,hs1,o2⟩:=Wn ho
  refine ⟨s2,⟨_,C4 ho,_,_,_,rfl,by rw [e];rfl⟩,nI (wtL (kdR R) w 2),σ1,o1,Bg (by show (nI _).length+1<=_;rw [IL];omega) ?_⟩
  rw [e]
  refine Kv (by omega) (by omega) fun A n c σ' o3=>?_
  have h3:=o2 ⟨A,n,c⟩ _ σ' o3
  obtain ⟨w1,w2⟩:=OB h3 (k:=3) (by show 3<5;omega) (.slice A n c)
  refine ⟨w1,hJ _ ⟨s1,⟨A,n,c⟩,sh,?_⟩⟩
  rw [hw1,hw2,WH]
  exact w2
end
section
variable {σ:Hp} {R:List Rp}
theorem UW (R:List Rp):∀ k,(mtF R k).1.length=R.length/\(mtF R k).2.length+HB (mtF R k).1<=k:=by
 have hrun_b:∀ (n:Nat) (t:Int) (w:List Bool) (H:List (Nat×Nat×Int)),(hrun (kdR R) (BZ R) t n w H).1.length=w.length/\(hrun (kdR R) (BZ R) t n w H).2.length+HB (hrun (kdR R) (BZ R) t n w H).1<=H.length+HB w:=by
  intro n
  induction n with
  | zero=>exact fun t w H=>⟨rfl,Nat.le_refl _⟩
  | succ n ih=>
   intro t w H
   have e:hrun (kdR R) (BZ R) t (n+1) w H=match nxM (kdR R) (BZ R) w with | none=>(w,H) | some (c,a)=>hrun (kdR R) (BZ R) t n ((w.set c false).set a false) (H++[(c,a,t)]):=rfl
   rw [e]
   cases en:nxM (kdR R) (BZ R) w with
   | none=>exact ⟨rfl,Nat.le_refl _⟩
   | some r=>
    obtain ⟨c,a⟩:=r
    obtain ⟨hc,_,_⟩:=Rz en
    have h1:=Nw (Ey.1 hc).2.1
    have h2:=TW (w:=w.set c false) (a:=a)
    obtain ⟨i1,i2⟩:=ih t ((w.set c false).set a false) (H++[(c,a,t)])
    rw [List.length_set,List.length_set] at i1
    rw [List.length_append] at i2
    simp only [List.length_cons,List.length_nil] at i2
    exact ⟨i1,Nat.le_trans i2 (by omega)⟩
 intro k
 induction k with
 | zero=>
  refine ⟨by simp [mtF,mtc],?_⟩
  show 0+HB (List.replicate R.length false)<=0
  unfold HB
  rw [List.countP_replicate]
  simp
 | succ k ih=>
  obtain ⟨i1,i2⟩:=hrun_b R.length (tmR R k) ((mtF R k).1.set k true) (mtF R k).2
  have h3:=RV (w:=(mtF R k).1) (c:=k)
  show (hrun (kdR R) (BZ R) (tmR R k) R.length ((mtF R k).1.set k true) (mtF R k).2).1.length=_/\(hrun (kdR R) (BZ R) (tmR R k) R.length ((mtF R k).1.set k true) (mtF R k).2).2.length+HB (hrun (kdR R) (BZ R) (tmR R k) R.length ((mtF R k).1.set k true) (mtF R k).2).1<=_
  rw [List.length_set] at i1
  exact ⟨i1.trans ih.1,by omega⟩
theorem PZ {t:Int} {i:Nat}:∀ (n:Nat) (w:List Bool) (H:List (Nat×Nat×Int)),(∀ j,i<=j->w.getD j false=false)->∀ j,i<=j->(hrun (kdR R) (BZ R) t n w H).1.getD j false=false
 | 0,_,_,h=>h
 | n+1,w,H,h=>by
  intro j hj
  have e:hrun (kdR R) (BZ R) t (n+1) w H=match nxM (kdR R) (BZ R) w with | none=>(w,H) | some (c,a)=>hrun (kdR R) (BZ R) t n ((w.set c false).set a false) (H++[(c,a,t)]):=rfl
  rw [e]
  cases en:nxM (kdR R) (BZ R) w with
  | none=>exact h j hj
  | some r=>
   obtain ⟨c,a⟩:=r
   refine PZ n _ _ (fun j hj=>?_) j hj
   rw [Dy,Dy]
   split
   ·rfl
   ·split
    ·rfl
    ·exact h j hj
theorem QU (R:List Rp):∀ k j,k<=j->(mtF R k).1.getD j false=false
 | 0,j,_=>by
  show (List.replicate R.length false).getD j false=false
  rw [List.getD_eq_getElem?_getD,List.getElem?_replicate]
  split<;>rfl
 | k+1,j,hj=>by
  refine PZ (t:=tmR R k) (i:=k+1) R.length ((mtF R k).1.set k true) (mtF R k).2 (fun j hj=>?_) j hj
  rw [Dy,if_neg (by omega)]
  exact QU R k j (by omega)
theorem Ym {L:SL} (hR:RdS sRp σ L.A L.n R):Ae Tryz.prog Qv #[L.v] σ (MtR σ R):=by
 refine OD _ _ _ _ _ ?_
 unfold Hf
 have hn:L.n=R.length:=hR.1
 refine AD (fun a=>Al (MtR.err (by unfold mtE;rw [if_pos (by omega)]) (by decide))) (fun a=>?_)
 have h60:¬ 60<R.length:=by omega
 refine Af fun J3 h3=>?_
 refine ⟨fun q l i τ=>∃ k:Nat,q=R.length-k/\l=Yj R k/\i=k/\k<=R.length/\τ=σ/\∀ j,j<k->O7 R j=true,⟨_,0,rfl,rfl,rfl,by omega,rfl,fun j h=>by omega⟩,?_⟩
 rintro q l i τ ⟨k,rfl,rfl,rfl,hk,rfl,hj⟩ _
 refine AD (fun hlt=>?_) (fun hlt=>?_)
 ·have hkl:k<R.length:=by omega
  refine Af fun J63 h63=>IZ hR hkl ?_
  refine Af fun J75 h75=>Af fun J78 h78=>?_
  have k78:∀ t,t=!O7 R k->J78 t τ:=by
   rintro t rfl
   rw [h78]
   intro _
   refine BJ (fun e=>Al (MtR.err (YW h60 hkl e) (by decide))) (fun e=>?_)
   rw [h75]
   intro _
   rw [h63]
   intro _
   refine AP (by omega) (AW _ (by omega) ⟨k+1,rfl,rfl,by omega,by omega,rfl,fun j hjk=>?_⟩)
   rcases Nat.lt_or_ge j k with h1 | h1
   ·exact hj j h1
   ·have:j=k:=by omega
    subst this
    exact e
  clear h78 h75 h63
  refine SY (BJ (fun e=>k78 _ ?_) (fun e1=>SY (BJ (fun e=>k78 _ ?_) (fun e2=>SY (k78 _ ?_)))))
  ·have e:Inn (kdR R k) 1 2=false:=e
   unfold O7
   rw [e]
   rfl
  ·have e1:Inn (kdR R k) 1 2=true:=e1
   unfold O7
   rw [e1,e]
   rfl
  ·have e1:Inn (kdR R k) 1 2=true:=e1
   unfold O7
   rw [e1,e2]
   rfl
 ·obtain rfl:k=R.length:=by omega
  have e0:mtE R=0:=Zo h60 hj
  have hmk:Uf R:=fun i hi=>(Nl (hj i hi)).2.1
  rw [h3]
  intro _
  intro b hb
  have hnew:L7 b L R (List.replicate R.length false) [] τ (τ.ins b (.cells #[.slice L.A L.n L.c,.slice none 0 0,.slice none 0 0,.slice none 0 0,.slice none 0 0] 103 (0,0))):=L7.new rfl hb
  generalize τ.ins b _=τ1 at *
  refine Af fun J8 h8=>?_
  refine ⟨fun q i τ'=>∃ k:Nat,q=R.length-k/\i=k/\k<=R.length/\L7 b L R (mtF R k).1 (mtF R k).2 τ τ',⟨_,0,rfl,rfl,by omega,hnew⟩,?_⟩
  rintro q i τ' ⟨k,rfl,rfl,hk,ho⟩ _
  refine AD (fun hlt=>?_) (fun hlt=>?_)
  ·have hkl:k<R.length:=by omega
   obtain ⟨f1,f2⟩:=UW R k
   have hsub:Hp.Sub τ τ':=by
    obtain ⟨_,_,_,h'⟩:=ho
    exact Lse.sub Bj h'
   refine Af fun J17 h17=>IZ (hR.sub hsub) hkl (Af fun J28 h28=>?_)
   have k28:∀ τ2,L7 b L R ((mtF R k).1.set k true) (mtF R k).2 τ τ2->J28 τ2:=by
    intro τ2 h2
    rw [h28]
    intro _
    have hca:=RV (w:=(mtF R k).1) (c:=k)
    refine ⟨fun q τ3=>∃ (n:Nat) (w:List Bool) (H:List (Nat×Nat×Int)),q=n/\L7 b L R w H τ τ3/\w.length=R.length/\HB w<=n/\H.length+HB w<=k+1/\hrun (kdR R) (BZ R) (tmR R k) n w H=mtF R (k+1),⟨_,R.length,_,_,rfl,h2,by rw [List.length_set];exact f1,?_,by omega,rfl⟩,?_⟩
    ·have:=Yy (w:=(mtF R k).1.set k true)
     rw [List.length_set] at this
     omega
    rintro q τ3 ⟨n,w,H,rfl,h4,h5,h6,h7,h9⟩ _
    refine AU GS (Z8 (t:=tmR R k) h4 hR hmk h5 (by omega) (by omega)) ?_
    intro v τ4 hh
    unfold GY at hh
    cases en:nxM (kdR R) (BZ R) w with
    | none=>
     rw [en] at hh
     obtain ⟨rfl,h10⟩:=hh
     refine ⟨_,rfl,TP ?_⟩
     rw [VN en] at h9
     rw [h17]
     intro _
     refine AP (by omega) (AW _ (by omega) ⟨k+1,rfl,by omega,by omega,?_⟩)
     rw [← h9]
     exact h10
    | some r=>
     obtain ⟨c,a⟩:=r
     rw [en] at hh
     obtain ⟨rfl,h10⟩:=hh
     obtain ⟨m,m1,m2,m3⟩:=Vu (t:=tmR R k) (H:=H) h6 en
     obtain ⟨hc,_,_⟩:=Rz en
     have c1:=Nw (Ey.1 hc).2.1
     have c2:=TW (w:=w.set c false) (a:=a)
     refine ⟨_,rfl,Aai (AW m m1 ⟨m,_,_,rfl,h10,by rw [List.length_set,List.length_set];exact h5,m2,?_,by rw [← m3];exact h9⟩)⟩
     rw [List.length_append]
     simp only [List.length_cons,List.length_nil]
     omega
   obtain ⟨s,⟨o,g1,C,e,f,rfl,g2⟩,g3⟩:=ho.add (i:=k) (J:=J28) (by omega) (QU R k) (Nl (hj k hkl)).1 (by omega) k28
   have hkd:=(Nl (hj k hkl)).1
   have hkd:0<=kdR R k/\kdR R k<3:=by omega
   refine ⟨hkd.1,hkd.2,?_⟩
   rw [B3,Nat.mul_one]
   exact Bm g1 g2 ⟨g3,g3⟩
  ·obtain rfl:k=R.length:=by omega
   rw [h8]
   intro _
   obtain ⟨s1,s2,sh,h'⟩:=ho
   refine Bm (C4 h') rfl (Al ⟨sh,by rw [e0];rfl,Lse.sub Bj h',?_⟩)
   have:mtL R=Fu (mtF R R.length).2:=if_pos e0
   rw [this]
   obtain ⟨_,o1,_⟩:=Y9 h'
   exact Ak.rd o1
end
end Go.Proofs.YtoelhdjloaknbaaGreat
