/- Trimmed by wip/trim.py to what this claim rests on. -/
import Derived.Test.YthhadkggldcolaaGreatZNc1
import Derived.Test.YthhadkggldcolaaGreatZW1
import Derived.Test.YthhadkggldcolaaGreatZNe5
namespace Go.Proofs.YthhadkggldcolaaGreat
set_option maxRecDepth 100000
open Go.RowKit
def ST (l:List (Nat×Obj)) (A:Option Addr) (n c:Nat) (xs:List Bool) (σ τ:Hp):Prop:=∃ σ1,Bxs l σ σ1/\Al 4 [.bool] σ1 A n c xs τ
section
variable {σ τ:Hp} {l:List (Nat×Obj)} {A:Option Addr} {n c:Nat} {xs:List Bool}
theorem ST.sub (h:ST l A n c xs σ τ):Hp.Sub σ τ:=by
 obtain ⟨σ1,h1,h2⟩:=h
 exact h1.sub.trans h2.sub
theorem ST.at (h:ST l A n c xs σ τ) {k b:Nat} {o:Obj} (hk:l[k]? = some (b,o)):τ b=some (o,true):=by
 obtain ⟨σ1,h1,h2⟩:=h
 exact h2.sub _ _ (h1.at hk)
theorem ST.set (h:ST l A n c xs σ τ) {k b:Nat} {o:Obj} (hk:l[k]? = some (b,o)) (o':Obj):ST (l.set k (b,o')) A n c xs σ (τ.ins b o'):=by
 obtain ⟨σ1,h1,h2⟩:=h
 exact ⟨_,h1.set hk o',AD.own.again h2 (h1.at hk) o'⟩
theorem ST.stv (h:ST l A n c xs σ τ) {k b i:Nat} {cc:Array Value} {e:TypeId} {v:Value} {K:Hp->Prop} (hk:l[k]? = some (b,.cells cc e (0,0))) (hi:i<cc.size)
  (hK:∀ τ',ST (l.set k (b,.cells (cc.setIfInBounds i v) e (0,0))) A n c xs σ τ'->K τ'):st τ b i v K:=by
 have hg:=h.at hk
 refine ⟨IJ hg hi,?_⟩
 rw [DL hg]
 exact hK _ (h.set hk _)
theorem ST.rd (h:ST l A n c xs σ τ):RdS [.bool] τ A n xs:=by
 obtain ⟨σ1,h1,h2⟩:=h
 exact h2.rd
theorem ST.put (h:ST l A n c xs σ τ) {i:Nat} {v:Bool} {K:Hp->Prop} (hi:i<xs.length) (hK:∀ τ',ST l A n c (xs.set i v) σ τ'->K τ'):ix A n (i:Nat) 1 fun b a=>st τ b a (.bool v) K:=by
 obtain ⟨σ1,h1,h2⟩:=h
 have hl:n=xs.length:=h2.len
 obtain ⟨b,off,hA,_,hp⟩:=Al.putX (ss:=[.bool]) h2 hi
 obtain ⟨w1,w2⟩:=hp 0 (.bool v) v rfl
 rw [hA]
 refine ⟨by omega,by omega,?_⟩
 rw [Cq,Int.toNat_natCast]
 have e5:off+(i*List.length [Sh.bool]+0)=off+i*1:=rfl
 rw [e5] at w1 w2
 rw [hA] at w2 hK
 exact ⟨w1,hK _ ⟨σ1,h1,w2⟩⟩
theorem Aan {A:Option Addr} {n c:Nat}:Ae Tryz.prog Kg #[.slice A n c] σ fun v σ'=>∃ b,v=.func (.func D1) #[] #[.pointer (some ⟨b,0,none⟩)]/\Blk b (.cells #[.slice A n c] 26 (0,0)) σ σ':=by
 refine Hg _ _ _ _ _ ?_
 intro b nb
 exact Ah ⟨b,rfl,nb,rfl⟩
theorem YJ {y:Value} {b:Nat} {A:Option Addr} {n c:Nat} {xs:List Int} {I:Nat->Hp->Prop} {Q:Hp->Prop} (hn:n<=4294967296)
  (hI:∀ i τ,I i τ->τ b=some (.cells #[.slice A n c] 26 (0,0),true)/\RdS [.int .i64] τ A n xs)
  (hy:∀ i (h:i<xs.length) τ,I i τ->B6 Tryz.prog y #[.int .i64 ((xs.length-1-i:Nat):Int),.int .i64 (xs[xs.length-1-i]'(by omega))] τ fun v τ'=>∃ t:Bool,v=.bool t/\(t=true->I (i+1) τ')/\(t=false->Q τ'))
  (h0:I 0 σ):Ae Tryz.prog D1 #[y,.pointer (some ⟨b,0,none⟩)] σ fun _ σ'=>I xs.length σ'∨Q σ':=by
 refine Gi _ _ _ _ ?_
 unfold Cf
 obtain ⟨g0,r0⟩:=hI _ _ h0
 have hnx:n=xs.length:=r0.1
 refine AL (BB g0 rfl (AP (by omega) ?_))
 refine ⟨fun q i τ=>∃ k:Nat,q=xs.length-k/\i=(xs.length:Int)-1-k/\k<=xs.length/\I k τ,⟨_,0,rfl,by omega,by omega,h0⟩,?_⟩
 rintro q i τ ⟨k,rfl,rfl,hk,hIk⟩ _
 obtain ⟨g1,r1⟩:=hI _ _ hIk
 refine AH (fun hlt=>?_) (fun hge=>?_)
 ·refine AL (BB g1 rfl ?_)
  have ei:(xs.length:Int)-1-k=((xs.length-1-k:Nat):Int):=by omega
  rw [ei]
  refine Yw r1 (by omega) (by rw [Int.toNat_natCast];omega) ?_
  have:=hy k (by omega) τ hIk
  refine B6.mono this ?_
  rintro v τ' ⟨t,rfl,ht,hq⟩
  refine ⟨t,rfl,Ba (fun e=>Ah (.inr (hq e))) (fun e=>AP (by omega) (Bb _ (by omega) ⟨k+1,rfl,by omega,by omega,ht e⟩))⟩
 ·obtain rfl:k=xs.length:=by omega
  exact Ah (.inl hIk)
end
def clm (ws:List Int) (lim:Int):Nat->Nat
 | 0=>0
 | i+1=>if lim<gt ws ((ws.length-1-i:Nat):Int) then 0 else clm ws lim i+1
theorem UL {ws:List Int} {lim:Int}:∀ i,clm ws lim i<=i
 | 0=>Nat.le_refl _
 | i+1=>by
  have ih:=UL (ws:=ws) (lim:=lim) i
  unfold clm
  split<;>omega
def OD (ws:List Int) (lim em:Int) (t:Nat):Bool:=decide ((if ((ws.length-1-t:Nat):Int)<em then ((ws.length-1-t:Nat):Int) else em)<(clm ws lim (ws.length-t):Nat))
def LX (ws:List Int) (lim em:Int) (i:Nat):List Bool:=(List.range ws.length).map fun t=>decide (ws.length-i<=t)&&OD ws lim em t
def Pd (ws:List Int) (lim em:Int):List Bool:=(List.range ws.length).map (OD ws lim em)
theorem Xv {ws:List Int} {lim em:Int} {i:Nat}:(LX ws lim em i).length=ws.length:=by simp [LX]
theorem Xu {ws:List Int} {lim em:Int}:(Pd ws lim em).length=ws.length:=by simp [Pd]
theorem AaE {ws:List Int} {lim em:Int}:LX ws lim em 0=List.replicate ws.length false:=by
 apply List.ext_getElem
 ·simp [LX]
 ·intro i h1 h2
  have:i<ws.length:=by simpa [LX] using h1
  simp only [LX,List.getElem_map,List.getElem_range,List.getElem_replicate]
  rw [decide_eq_false (by omega),Bool.false_and]
theorem XE {ws:List Int} {lim em:Int}:LX ws lim em ws.length=Pd ws lim em:=by
 unfold LX Pd
 refine List.map_congr_left fun t _=>?_
 rw [decide_eq_true (by omega),Bool.true_and]
theorem XB {ws:List Int} {lim em:Int} {i:Nat} (hi:i<ws.length):(LX ws lim em i).set (ws.length-1-i) (OD ws lim em (ws.length-1-i))=LX ws lim em (i+1):=by
 apply List.ext_getElem
 ·simp [LX]
 ·intro t h1 h2
  have ht:t<ws.length:=by simpa [LX] using h2
  rw [List.getElem_set]
  simp only [LX,List.getElem_map,List.getElem_range]
  by_cases e:ws.length-1-i=t
  ·rw [if_pos e,decide_eq_true (by omega),Bool.true_and,e]
  ·rw [if_neg e]
   congr 1
   exact decide_eq_decide.2 (by omega)
def qq0:Int×Int:=(0,0)
def FJ (l:List (Int×Int)):Int×Int:=l.getD (l.length-1) qq0
def ext (l:List (Int×Int)) (t:Int):List (Int×Int):=if 0<l.length/\(FJ l).2=t then l.set (l.length-1) ((FJ l).1,t+1) else l++[(t,t+1)]
def adj (ms:List Bool):Nat->List (Int×Int)
 | 0=>[]
 | k+1=>if ms.getD k false=true then ext (adj ms k) (k:Nat) else adj ms k
theorem Sn {ms:List Bool}:∀ k,(adj ms k).length<=k
 | 0=>Nat.le_refl _
 | k+1=>by
  have ih:=Sn (ms:=ms) k
  unfold adj
  split
  ·unfold ext
   split
   ·rw [List.length_set];omega
   ·simp;omega
  ·omega
abbrev s22:List Sh:=[.int .i64,.int .i64]
section
variable {σ:Hp}
theorem XD {A:Option Addr} {n:Nat} {xs:List Bool} {i:Nat} {K:Bool->Prop} (h:RdS [.bool] σ A n xs) (hn:i<xs.length) (hk:K xs[i]):ix A n (i:Nat) 1 fun b a=>ldB σ b a K:=
 AaM h (by omega) (by simpa using hn) (by simpa using hk)
theorem Up {τ:Hp} {A:Option Addr} {n:Nat} {xs:List (Int×Int)} {i:Int} {K:Int->Prop} (h:RdS s22 τ A n xs) (hi:0<=i) (hn:i.toNat<xs.length) (hk:K (xs.getD i.toNat qq0).2):
  ix A n i 2 fun b a=>ix (some ⟨b,a,none⟩) 2 1 1 fun b' a'=>ldI τ .i64 b' a' K:=by
 refine C7 (ss:=s22) h rfl hi hn fun b o hc=>?_
 have e:xs.getD i.toNat qq0=xs[i.toNat]:=by simp [List.getD,hn]
 rw [e] at hk
 exact ⟨by decide,by decide,Bn (hc 1 (by decide)) hk⟩
theorem Aaj {e:TypeId} {σ' τ:Hp} {A:Option Addr} {n c:Nat} {xs:List (Int×Int)} {i:Nat} {v:Int} {K:Hp->Prop} (h:Al e s22 σ' A n c xs τ) (hn:i<xs.length)
  (hk:∀ τ',Al e s22 σ' A n c (xs.set i ((xs.getD i qq0).1,v)) τ'->K τ'):ix A n (i:Nat) 2 fun b a=>ix (some ⟨b,a,none⟩) 2 1 1 fun b' a'=>st τ b' a' (.int .i64 v) K:=by
 have hl:n=xs.length:=h.len
 obtain ⟨b,off,hA,_,hp⟩:=Al.putX (ss:=s22) h hn
 have e:xs.getD i qq0=xs[i]:=by simp [List.getD,hn]
 rw [e] at hk
 obtain ⟨w1,w2⟩:=hp 1 (.int .i64 v) (xs[i].1,v) rfl
 rw [hA]
 refine ⟨by omega,by omega,?_⟩
 refine ⟨by decide,by decide,?_⟩
 rw [Cq,Int.toNat_natCast]
 have e5:off+(i*(s22).length+1)=off+i*2+JD (1:Int).toNat 1:=rfl
 rw [e5] at w1 w2
 rw [hA] at w2 hk
 exact ⟨w1,hk _ w2⟩
theorem Ul {A:Option Addr} {n c:Nat} {ws:List Int} {lim em:Int} (h:RdS [.int .i64] σ A n ws) (hl:ws.length<=500) (_:0<=em/\em<=100):Ae Tryz.prog N6 #[.slice A n c,.int .i64 lim,.int .i64 em] σ (Xl 68 s22 σ (adj (Pd ws lim em) ws.length)):=by
 refine Li _ _ _ _ _ _ _ ?_
 unfold Ew
 have hn:=h.lenI
 refine ⟨by omega,by omega,by omega,Ac fun J3 h3=>?_⟩
 refine Bd FQ Aan ?_
 rintro v σ56 ⟨bb,rfl,hbb⟩
 refine ⟨_,rfl,?_⟩
 intro b58 n58 b60 n60 b62 n62 b64 n64 A66 n66 c66 σ67 ho b68 n68 lb Rec hlb hcall
 have hB1:Bxs [(bb,.cells #[.slice A n c] 26 (0,0)),(b58,.cells #[.slice A n c] 26 (0,0)),(b60,.cells #[.int .i64 lim] 3),(b62,.cells #[.int .i64 em] 3),(b64,.cells #[.int .i64 0] 3)] σ _:=⟨_,hbb,_,⟨n58,rfl⟩,_,⟨n60,rfl⟩,_,⟨n62,rfl⟩,_,⟨n64,rfl⟩,rfl⟩
 have hB2:Bxs [(b68,.cells #[.slice A66 n66 c66] 79 (0,0)),(lb,Rec .ready none)] σ67 _:=⟨_,⟨n68,rfl⟩,_,⟨hlb,rfl⟩,rfl⟩
 obtain ⟨σ1,hB3,ho2⟩:=AD.swap (R:=fun a c'=>Al 4 [.bool] a A66 n66 c66 _ c') AD.own Bxs.port ho hB2
 have hS0:ST [(bb,.cells #[.slice A n c] 26 (0,0)),(b58,.cells #[.slice A n c] 26 (0,0)),(b60,.cells #[.int .i64 lim] 3),(b62,.cells #[.int .i64 em] 3),(b64,.cells #[.int .i64 0] 3),(b68,.cells #[.slice A66 n66 c66] 79 (0,0)),(lb,Rec .ready none)] A66 n66 c66 (LX ws lim em 0) σ _:=⟨_,hB1.app hB3,by
  rw [AaE]
  have e:((n:Nat):Int).toNat=ws.length:=by omega
  rw [e] at ho2
  exact ho2⟩
 clear hB1 hB2 hB3 ho2 ho
 refine Td.nf Ff (Ae.mono (YJ (y:=.func (.yield lb) #[] #[]) (b:=bb) (A:=A) (n:=n) (c:=c) (xs:=ws)
  (I:=fun i τ=>ST [(bb,.cells #[.slice A n c] 26 (0,0)),(b58,.cells #[.slice A n c] 26 (0,0)),(b60,.cells #[.int .i64 lim] 3),(b62,.cells #[.int .i64 em] 3),(b64,.cells #[.int .i64 (clm ws lim i:Nat)] 3),(b68,.cells #[.slice A66 n66 c66] 79 (0,0)),(lb,Rec .ready none)] A66 n66 c66 (LX ws lim em i) σ τ)
  (Q:=fun _=>False) (by omega) (fun i τ hS=>⟨hS.at (k:=0) rfl,h.sub hS.sub⟩) (fun i hi τ hS=>?_) hS0) ?_)
 ·refine hcall _ _ _ (hS.at (k:=6) rfl) ⟨_,_,rfl,fun _=>⟨hS.at (k:=6) rfl,?_⟩⟩
  have h3:=hS.set (k:=6) rfl (Rec .busy none)
  generalize τ.ins lb (Rec .busy none)=τ9 at h3 ⊢
  have hc:=UL (ws:=ws) (lim:=lim) i
  refine Bl (h3.at (k:=4) rfl) rfl (AP (by omega) (h3.stv (k:=4) rfl Nat.zero_lt_one fun τ2 h4=>?_))
  refine Ac fun J86 h86=>?_
  have k86:∀ τ3,ST [(bb,.cells #[.slice A n c] 26 (0,0)),(b58,.cells #[.slice A n c] 26 (0,0)),(b60,.cells #[.int .i64 lim] 3),(b62,.cells #[.int .i64 em] 3),(b64,.cells #[.int .i64 (clm ws lim (i+1):Nat)] 3),(b68,.cells #[.slice A66 n66 c66] 79 (0,0)),(lb,Rec .busy none)] A66 n66 c66 (LX ws lim em i) σ τ3->J86 τ3:=by
   intro τ3 h5
   rw [h86]
   intro _
   refine BB (h5.at (k:=5) rfl) rfl (Bl (h5.at (k:=4) rfl) rfl (Bl (h5.at (k:=3) rfl) rfl (BB (h5.at (k:=1) rfl) rfl (AP (by omega) (AP (by omega) (h5.put (by rw [Xv];omega) fun τ4 h6=>?_))))))
   have e1:decide ((if ((n:Nat):Int)-1-((ws.length-1-i:Nat):Int)<em then ((n:Nat):Int)-1-((ws.length-1-i:Nat):Int) else em)<(clm ws lim (i+1):Nat))=OD ws lim em (ws.length-1-i):=by
    unfold OD
    have a1:((n:Nat):Int)-1-((ws.length-1-i:Nat):Int)=((ws.length-1-(ws.length-1-i):Nat):Int):=by omega
    have a2:ws.length-(ws.length-1-i)=i+1:=by omega
    rw [a1,a2]
   rw [e1,XB hi] at h6
   exact ⟨h6.at (k:=6) rfl,true,rfl,fun _=>h6.set (k:=6) rfl (Rec .ready none),fun e=>by cases e⟩
  have eg:ws[ws.length-1-i]'(by omega)=gt ws ((ws.length-1-i:Nat):Int):=(BR (by omega)).symm
  rw [eg]
  unfold clm at k86
  refine Bl (h4.at (k:=2) rfl) rfl (AH (fun a=>h4.stv (k:=4) rfl (by simp) fun τ3 h5=>k86 _ ?_) (fun a=>k86 _ ?_))
  ·rw [if_pos a]
   exact h5
  ·rw [if_neg a]
   have:(((clm ws lim i+1:Nat):Nat):Int)=(clm ws lim i:Nat)+1:=by omega
   rw [this]
   exact h4
 ·rintro v τ (hS | hf)
  ·refine ⟨.ready,none,hS.at (k:=6) rfl,rfl,?_⟩
   have hS:=hS.set (k:=6) rfl (Rec .exhausted none)
   generalize τ.ins lb (Rec .exhausted none)=τ1 at hS ⊢
   rw [XE] at hS
   show J3 _ _
   rw [h3]
   intro _
   refine Ac fun J7 h7=>AL (BB (hS.at (k:=5) rfl) rfl ?_)
   have hr:=hS.rd
   have hsz:=hS.sub
   have hml:=Xu (ws:=ws) (lim:=lim) (em:=em)
   have hn66:n66=ws.length:=by rw [hr.1];exact hml
   clear hS hS0 hcall h3 hlb
   generalize Pd ws lim em=ms at *
   refine ⟨fun q A' n' c' i τ2=>∃ k:Nat,q=ws.length-k/\i=k/\k<=ws.length/\Al 68 s22 τ1 A' n' c' (adj ms k) τ2,⟨_,0,rfl,rfl,by omega,Al.nil ..⟩,?_⟩
   rintro q A' n' c' i τ2 ⟨k,rfl,rfl,hk,hoq⟩ _
   refine AH (fun hlt=>?_) (fun hlt=>?_)
   ·have hkl:k<ws.length:=by omega
    have hal:=Sn (ms:=ms) k
    have hql:n'=(adj ms k).length:=hoq.len
    refine Ac fun J20 h20=>XD (hr.sub hoq.sub) (by omega) ?_
    have k20:∀ A' n' c' τ',Al 68 s22 τ1 A' n' c' (adj ms (k+1)) τ'->J20 A' n' c' τ':=by
     intro A' n' c' τ' h'
     rw [h20]
     intro _
     exact AP (by omega) (Bb _ (by omega) ⟨k+1,rfl,by omega,by omega,h'⟩)
    have eb:ms.getD k false=ms[k]'(by omega):=by simp [List.getD,show k<ms.length by omega]
    unfold adj at k20
    rw [eb] at k20
    cases em2:ms[k]'(by omega) with
    | false=>
     rw [em2,if_neg (by decide)] at k20
     exact Abr (k20 _ _ _ _ hoq)
    | true=>
     rw [em2,if_pos rfl] at k20
     refine Aav (Ac fun J30 h30=>?_)
     have k30:∀ t,t=decide (0<(adj ms k).length/\(FJ (adj ms k)).2=(k:Nat))->J30 t τ2:=by
      rintro t rfl
      rw [h30]
      intro _
      unfold ext at k20
      generalize adj ms k=L at *
      refine AH (fun a=>?_) (fun a=>?_)
      ·rw [if_pos a] at k20
       have el:((n':Nat):Int)-1=((L.length-1:Nat):Int):=by omega
       refine AP (by omega) ?_
       rw [el]
       refine Up hoq.rd (by omega) (by omega) ?_
       have e1:(L.getD (((L.length-1:Nat):Int).toNat) qq0).2=(k:Nat):=by rw [Int.toNat_natCast];exact a.2
       rw [e1]
       refine AP (by omega) (Aaj hoq (by omega) fun τ' h'=>?_)
       exact k20 _ _ _ _ h'
      ·rw [if_neg a] at k20
       refine AP (by omega) (Co hoq (Bf (by show L.length+1<=_;omega) ?_))
       intro A2 n2 c2 τ' h'
       exact k20 _ _ _ _ h'
     refine AH (fun a=>?_) (fun a=>k30 _ ?_)
     ·have el:((n':Nat):Int)-1=(((adj ms k).length-1:Nat):Int):=by omega
      refine AP (by omega) ?_
      rw [el]
      refine Up hoq.rd (by omega) (by omega) (k30 _ ?_)
      rw [Int.toNat_natCast]
      exact decide_eq_decide.2 ⟨fun x=>⟨by omega,x⟩,fun x=>x.2⟩
     ·symm
      exact decide_eq_false fun x=>a (by omega)
   ·obtain rfl:k=ws.length:=by omega
    rw [h7]
    intro _
    obtain ⟨σ4,h6,h7'⟩:=AD.own.less (R:=fun a c''=>Al 68 s22 a A' n' c' (adj ms ws.length) c'') hoq hsz
    exact Bw h7' ⟨A',n',c',rfl,h6⟩
  ·exact hf.elim
end
end Go.Proofs.YthhadkggldcolaaGreat
namespace Go.Proofs.YthhadkggldcolaaGreat
set_option maxRecDepth 100000
open Go.RowKit
theorem TC {ws:List Int} {lim:Int}:∀ i,i<=ws.length->(∀ j:Nat,ws.length-i<=j->j<ws.length-i+clm ws lim i->gt ws (j:Nat)<=lim)/\(clm ws lim i<i->lim<gt ws ((ws.length-i+clm ws lim i:Nat):Int))
 | 0,_=>⟨fun j h1 h2=>by unfold clm at h2;omega,fun h=>by omega⟩
 | i+1,hi=>by
  obtain ⟨h1,h2⟩:=TC (ws:=ws) (lim:=lim) i (by omega)
  unfold clm
  have e1:ws.length-1-i=ws.length-(i+1):=by omega
  by_cases c:lim<gt ws ((ws.length-1-i:Nat):Int)
  ·rw [if_pos c]
   refine ⟨fun j a b=>by omega,fun _=>?_⟩
   rw [e1] at c
   exact c
  ·rw [if_neg c]
   refine ⟨fun j a b=>?_,fun a=>?_⟩
   ·rcases Nat.lt_or_ge j (ws.length-i) with h3 | h3
    ·have:j=ws.length-1-i:=by omega
     rw [this]
     omega
    ·exact h1 j h3 (by omega)
   ·have:=h2 (by omega)
    have e2:ws.length-(i+1)+(clm ws lim i+1)=ws.length-i+clm ws lim i:=by omega
    rw [e2]
    exact this
theorem Q9 {ws:List Int} {lim em:Int} {t:Nat} (ht:t<ws.length) (_:0<=em):OD ws lim em t=true↔∀ j:Nat,t<=j->(j:Int)<=t+em->j<ws.length->gt ws (j:Nat)<=lim:=by
 obtain ⟨h1,h2⟩:=TC (ws:=ws) (lim:=lim) (ws.length-t) (by omega)
 have hle:=UL (ws:=ws) (lim:=lim) (ws.length-t)
 have e1:ws.length-(ws.length-t)=t:=by omega
 rw [e1] at h1 h2
 unfold OD
 generalize clm ws lim (ws.length-t)=c at *
 rw [decide_eq_true_eq]
 constructor
 ·intro h j a b d
  refine h1 j a ?_
  split at h<;>omega
 ·intro h
  rcases Nat.lt_or_ge c (ws.length-t) with h3 | h3
  ·have h4:=h2 h3
   by_cases h5:((t+c:Nat):Int)<=t+em
   ·have:=h (t+c) (by omega) h5 (by omega)
    omega
   ·split<;>omega
  ·split<;>omega
theorem Wr {ws vs:List Int} {lim em:Int} {t:Nat} (hl:vs.length=ws.length) (hle:∀ j:Nat,j<ws.length->gt vs (j:Nat)<=gt ws (j:Nat)) (ht:t<ws.length) (he:0<=em) (h:OD ws lim em t=true):OD vs lim em t=true:=by
 rw [Q9 ht he] at h
 rw [Q9 (by omega) he]
 intro j a b c
 exact Int.le_trans (hle j (by omega)) (h j a b (by omega))
theorem XJ {ms:List Bool}:∀ k,(∀ q∈adj ms k,0<=q.1/\q.1<=q.2/\q.2<=(k:Nat))/\∀ t:Nat,(∃ q∈adj ms k,q.1<=(t:Int)/\(t:Int)<q.2)↔t<k/\ms.getD t false=true
 | 0=>⟨fun q hq=>by unfold adj at hq;simp at hq,fun t=>⟨fun ⟨q,hq,_⟩=>by unfold adj at hq;simp at hq,fun h=>by omega⟩⟩
 | k+1=>by
  obtain ⟨h1,h2⟩:=XJ (ms:=ms) k
  unfold adj
  by_cases c:ms.getD k false=true
  ·rw [if_pos c]
   generalize adj ms k=L at *
   unfold ext
   by_cases d:0<L.length/\(FJ L).2=(k:Nat)
   ·rw [if_pos d]
    have hlt:L.length-1<L.length:=by omega
    have el:FJ L=L[L.length-1]:=by unfold FJ;simp [List.getD,hlt]
    have hm:FJ L∈L:=by rw [el];exact List.getElem_mem _
    have hq:=h1 _ hm
    refine ⟨fun q hq2=>?_,fun t=>⟨?_,?_⟩⟩
    ·rcases List.mem_or_eq_of_mem_set hq2 with h | h
     ·have:=h1 q h
      omega
     ·rw [h]
      show 0<=(FJ L).1/\(FJ L).1<=(k:Int)+1/\(k:Int)+1<=((k+1:Nat):Int)
      omega
    ·rintro ⟨q,hq2,a1,a2⟩
     rcases List.mem_or_eq_of_mem_set hq2 with h | h
     ·have:=(h2 t).1 ⟨q,h,a1,a2⟩
      exact ⟨by omega,this.2⟩
     ·rw [h] at a1 a2
      have a1:(FJ L).1<=(t:Int):=a1
      have a2:(t:Int)<(k:Int)+1:=a2
      rcases Nat.lt_or_ge t k with h3 | h3
      ·have:=(h2 t).1 ⟨FJ L,hm,a1,by omega⟩
       exact ⟨by omega,this.2⟩
      ·obtain rfl:t=k:=by omega
       exact ⟨by omega,c⟩
    ·rintro ⟨a1,a2⟩
     rcases Nat.lt_or_ge t k with h3 | h3
     ·obtain ⟨q,b1,b2,b3⟩:=(h2 t).2 ⟨h3,a2⟩
      obtain ⟨i,hi,rfl⟩:=List.getElem_of_mem b1
      by_cases e:i=L.length-1
      ·subst e
       refine ⟨((FJ L).1,(k:Int)+1),List.mem_set hlt _,?_,?_⟩
       ·rw [el];exact b2
       ·show (t:Int)<(k:Int)+1
        omega
      ·refine ⟨L[i],?_,b2,b3⟩
       have hi':i<(L.set (L.length-1) ((FJ L).1,(k:Int)+1)).length:=by rw [List.length_set];exact hi
       have:(L.set (L.length-1) ((FJ L).1,(k:Int)+1))[i]'hi'=L[i]:=List.getElem_set_ne (fun x=>e x.symm) _
       rw [← this]
       exact List.getElem_mem _
     ·obtain rfl:t=k:=by omega
      refine ⟨((FJ L).1,(t:Int)+1),List.mem_set hlt _,?_,?_⟩
      ·show (FJ L).1<=(t:Int)
       omega
      ·show (t:Int)<(t:Int)+1
       omega
   ·rw [if_neg d]
    refine ⟨fun q hq2=>?_,fun t=>⟨?_,?_⟩⟩
    ·rcases List.mem_append.1 hq2 with h | h
     ·have:=h1 q h
      omega
     ·rw [List.mem_singleton] at h
      rw [h]
      show (0:Int)<=(k:Int)/\(k:Int)<=(k:Int)+1/\(k:Int)+1<=((k+1:Nat):Int)
      omega
    ·rintro ⟨q,hq2,a1,a2⟩
     rcases List.mem_append.1 hq2 with h | h
     ·have:=(h2 t).1 ⟨q,h,a1,a2⟩
      exact ⟨by omega,this.2⟩
     ·rw [List.mem_singleton] at h
      rw [h] at a1 a2
      have a1:(k:Int)<=(t:Int):=a1
      have a2:(t:Int)<(k:Int)+1:=a2
      obtain rfl:t=k:=by omega
      exact ⟨by omega,c⟩
    ·rintro ⟨a1,a2⟩
     rcases Nat.lt_or_ge t k with h3 | h3
     ·obtain ⟨q,b1,b2,b3⟩:=(h2 t).2 ⟨h3,a2⟩
      exact ⟨q,List.mem_append_left _ b1,b2,b3⟩
     ·obtain rfl:t=k:=by omega
      exact ⟨((t:Int),(t:Int)+1),by simp,Int.le_refl _,by show (t:Int)<(t:Int)+1;omega⟩
  ·rw [if_neg c]
   refine ⟨fun q hq=>?_,fun t=>⟨fun h=>?_,fun h=>?_⟩⟩
   ·have:=h1 q hq
    omega
   ·have:=(h2 t).1 h
    exact ⟨by omega,this.2⟩
   ·refine (h2 t).2 ⟨?_,h.2⟩
    rcases Nat.lt_or_ge t k with h3 | h3
    ·exact h3
    ·obtain rfl:t=k:=by omega
     exact absurd h.2 c
def K7 (L:List (Int×Int)) (t:Int):Bool:=L.any fun q=>decide (q.1<=t)&&decide (t<q.2)
theorem Wz {ws:List Int} {lim em:Int} {t:Nat} (ht:t<ws.length):K7 (adj (Pd ws lim em) ws.length) (t:Nat)=OD ws lim em t:=by
 have h:=(XJ (ms:=Pd ws lim em) ws.length).2 t
 have e:(Pd ws lim em).getD t false=OD ws lim em t:=by
  unfold Pd
  simp [List.getD,ht]
 rw [e] at h
 have:K7 (adj (Pd ws lim em) ws.length) (t:Nat)=true↔OD ws lim em t=true:=by
  unfold K7
  rw [List.any_eq_true]
  constructor
  ·rintro ⟨q,hq,hb⟩
   simp only [Bool.and_eq_true,decide_eq_true_eq] at hb
   exact (h.1 ⟨q,hq,hb⟩).2
  ·intro hb
   obtain ⟨q,hq,hb⟩:=h.2 ⟨ht,hb⟩
   exact ⟨q,hq,by simp [hb]⟩
 exact Bool.eq_iff_iff.2 this
def Gal.runA (g:Gal) (ws:List Int) (i:Nat):List (Int×Int):=if (i:Int)∈g.open then adj (Pd ws (gt g.li (i:Nat)) (gt g.em (i:Nat))) ws.length else []
def Gal.runE (g:Gal) (ws:List Int):Int:=if g.chk=0 then (if 500<ws.length then 2 else if (ws.any fun x=>!Inn x 0 200)=true then 1 else 0) else g.chk
def RnR (σ:Hp) (g:Gal) (ws:List Int):Value->Hp->Prop:=fun v σ'=>∃ (s:SL) (ys:List (Option Addr×Nat×Nat)),v=.tuple #[s.v,.int .i64 (g.runE ws)]/\Hp.Sub σ σ'/\(g.runE ws=0->RdS [.slc] σ' s.A s.n ys/\ys.length=g.B.length/\∀ i,(h:i<ys.length)->RdS s22 σ' ys[i].1 ys[i].2.1 (g.runA ws i))
theorem RnR.err {σ:Hp} {g:Gal} {ws:List Int} {e:Int} (h:g.runE ws=e) (h0:¬ e=0):RnR σ g ws (.tuple #[.slice none 0 0,.int .i64 e]) σ:=⟨⟨none,0,0⟩,[],by rw [h];rfl,Hp.Sub.refl _,fun h2=>absurd (h▸h2) h0⟩
def Gal.runP (g:Gal) (ws:List Int) (l:List Int) (i:Nat):List (Int×Int):=if (i:Int)∈l then g.runA ws i else []
theorem Wa {g:Gal} {ws l:List Int} {r:Nat} (h:(r:Int)∈g.open):g.runP ws (l++[(r:Int)]) r=adj (Pd ws (gt g.li (r:Nat)) (gt g.em (r:Nat))) ws.length:=by
 unfold Gal.runP
 rw [if_pos (by simp)]
 exact if_pos h
theorem Ze {g:Gal} {ws l:List Int} {r i:Nat} (h:¬ r=i):g.runP ws (l++[(r:Int)]) i=g.runP ws l i:=by
 unfold Gal.runP
 have e2:((i:Int)∈l++[(r:Int)])=((i:Int)∈l):=by
  apply propext
  simp only [List.mem_append,List.mem_singleton]
  exact ⟨fun x=>x.elim id (fun y=>by omega),.inl⟩
 simp only [e2]
theorem Ye {g:Gal} {ws:List Int} {i:Nat}:g.runP ws g.open i=g.runA ws i:=by
 unfold Gal.runP Gal.runA
 split<;>rfl
theorem Zd {ys:List (Option Addr×Nat×Nat)} {r i:Nat} {x:Option Addr×Nat×Nat} (h:i<(ys.set r x).length) (h':i<ys.length):(ys.set r x)[i]=if r=i then x else ys[i]:=List.getElem_set ..
section
variable {σ:Hp} {W:GaW} {g:Gal}
theorem Yo {x:Int}:cl Tryz.prog (.func (.func QJ) #[] #[]) #[.int .i64 x] σ fun v σ'=>v=.bool (!Inn x 0 200)/\σ'=σ:=by
 refine B6.func KW (NF _ _ _ ?_)
 unfold GD
 exact Xw (Ah ⟨rfl,rfl⟩)
theorem Vr {A:Option Addr} {n c:Nat} {ws:List Int} (h:GaR σ W g) (hw:RdS [.int .i64] σ A n ws) (hl:ws.length<=4294967296):Ae Tryz.prog M5 #[W.v g,.slice A n c] σ (RnR σ g ws):=by
 refine PK _ _ _ _ _ _ _ _ _ _ _ _ _ _ _ _ _ _ _ _ _ _ _ _ _ _ _ _ _ _ _ _ _ _ _ _ _ ?_
 unfold IK
 have hn:=hw.lenI
 have hrn:=h.rn
 refine clI Dl (Q7 h) (Bg (fun e=>Ah (RnR.err (if_neg e) e)) (fun e=>?_))
 have eE:g.runE ws=if 500<ws.length then 2 else if (ws.any fun x=>!Inn x 0 200)=true then 1 else 0:=if_pos e
 refine AH (fun a=>Ah (RnR.err (by rw [eE,if_pos (by omega)]) (by decide))) (fun a=>?_)
 rw [if_neg (by omega)] at eE
 refine clB AZ (KI (p:=fun x=>!Inn x 0 200) hw hl fun x _=>Yo) (B7 (fun b=>Ah (RnR.err (by rw [eE,if_pos b]) (by decide))) (fun b=>?_))
 rw [if_neg (by rw [b];decide)] at eE
 have hg:=Gal.chk_ok e
 have hB:=hg.n
 refine ⟨by omega,by omega,by omega,Ac fun J9 h9=>?_⟩
 refine Bd Dd (Q0 h hg) ?_
 rintro v σ14 ⟨A15,n15,c15,rfl,ho⟩
 have hs14:=ho.sub
 have hro:RdS [.int .i64] σ14 A15 n15 g.open:=ho.RdI
 have hol:=hg.open_len
 have hn15:=hro.lenI
 clear ho
 refine ⟨_,_,_,rfl,?_⟩
 refine ⟨fun q i ys τ=>∃ k:Nat,q=g.open.length-k/\i=k/\k<=g.open.length/\Hp.Sub σ14 τ/\ys.length=g.B.length/\∀ i,(h:i<ys.length)->RdS s22 τ ys[i].1 ys[i].2.1 (g.runP ws (g.open.take k) i),⟨_,0,rfl,rfl,by omega,Hp.Sub.refl _,by rw [List.length_replicate];omega,fun i hi=>?_⟩,?_⟩
 ·rw [List.getElem_replicate]
  exact (Al.nil 68 s22 σ14).rd
 rintro q i ys τ ⟨k,rfl,rfl,hk,hsτ,hyl,hy⟩ _
 refine AH (fun hlt=>?_) (fun hlt=>?_)
 ·have hkl:k<g.open.length:=by omega
  have hm:=List.getElem_mem hkl
  have hin:=hg.open_in hm
  have hli:=hg.nli
  have hem:=hg.nem
  refine DC (hro.sub hsτ) (by omega) (by omega) ?_
  rw [BR hkl]
  have etk:g.open.take (k+1)=g.open.take k++[g.open[k]]:=List.take_succ_eq_append_getElem hkl
  have hhτ:=h.sub (hs14.trans hsτ)
  have hwτ:=hw.sub (hs14.trans hsτ)
  generalize g.open[k]=r at *
  obtain ⟨r,rfl⟩:=Int.eq_ofNat_of_zero_le hin.1
  refine DC hhτ.li (by omega) (by omega) (DC hhτ.em (by omega) (by omega) ?_)
  have hem2:0<=gt g.em (r:Nat)/\gt g.em (r:Nat)<=100:=hg.em _ (Xr (by omega))
  refine Bd H8 (Ul hwτ (by omega) hem2) ?_
  rintro v τ2 ⟨A33,n33,c33,rfl,ho33⟩
  refine ⟨_,_,_,rfl,by omega,by rw [hyl];omega,⟨by rw [Int.toNat_natCast];omega,AP (by omega) (Bb _ (by omega) ⟨k+1,rfl,by omega,by omega,hsτ.trans ho33.sub,by rw [List.length_set];exact hyl,fun i hi=>?_⟩)⟩⟩
  have hi':i<ys.length:=by rwa [List.length_set] at hi
  rw [Zd hi hi',Int.toNat_natCast,etk]
  by_cases e1:r=i
  ·subst e1
   rw [if_pos rfl,Wa hm]
   exact ho33.rd
  ·rw [if_neg e1,Ze e1]
   exact (hy i hi').sub ho33.sub
 ·obtain rfl:k=g.open.length:=by omega
  rw [h9]
  intro _ A11 n11 c11 σ12 ho11
  refine Ah ⟨⟨A11,n11,c11⟩,ys,by rw [eE];rfl,hs14.trans (hsτ.trans ho11.sub),fun _=>⟨ho11.rd,hyl,fun i hi=>?_⟩⟩
  have:=(hy i hi).sub ho11.sub
  rw [List.take_length,Ye] at this
  exact this
theorem Z9 {τ:Hp} {A:Option Addr} {n:Nat} {xs:List (Int×Int)} {i:Nat} {K:Int->Prop} (h:RdS s22 τ A n xs) (hn:i<xs.length) (hk:K xs[i].1):
  ix A n (i:Nat) 2 fun b a=>ix (some ⟨b,a,none⟩) 2 0 1 fun b' a'=>ldI τ .i64 b' a' K:=by
 refine C7 (ss:=s22) h rfl (by omega) (by rw [Int.toNat_natCast];exact hn) fun b o hc=>?_
 exact ⟨by decide,by decide,Bn (hc 0 (by decide)) hk⟩
theorem TN {A:Option Addr} {n c:Nat} {L:List (Int×Int)} {t:Int} (h:RdS s22 σ A n L) (hl:L.length<=4294967296):Ae Tryz.prog SC #[.slice A n c,.int .i64 t] σ fun v σ'=>v=.bool (K7 L t)/\σ'=σ:=by
 refine PO _ _ _ _ _ _ ?_
 unfold Jh
 have hn:n=L.length:=h.1
 refine Ac fun J3 h3=>?_
 refine ⟨fun m i τ=>∃ k:Nat,m=L.length-k/\i=k/\k<=L.length/\τ=σ/\K7 (L.take k) t=false,⟨_,0,rfl,rfl,by omega,rfl,rfl⟩,?_⟩
 rintro m i τ ⟨k,rfl,rfl,hk,rfl,hj⟩ _
 refine AH (fun hlt=>?_) (fun hlt=>?_)
 ·have hkl:k<L.length:=by omega
  have et:K7 (L.take (k+1)) t=(K7 (L.take k) t||(decide (L[k].1<=t)&&decide (t<L[k].2))):=by
   unfold K7
   rw [List.take_succ_eq_append_getElem hkl,List.any_append]
   simp
  refine Ac fun J11 h11=>Ac fun J17 h17=>?_
  have k17:∀ x,x=(decide (L[k].1<=t)&&decide (t<L[k].2))->J17 x τ:=by
   rintro x rfl
   rw [h17]
   intro _
   refine B7 (fun e=>Ah ⟨?_,rfl⟩) (fun e=>?_)
   ·have:K7 L t=true:=by
     unfold K7
     exact List.any_eq_true.2 ⟨_,List.getElem_mem hkl,e⟩
    rw [this]
   ·rw [h11]
    intro _
    rw [hj,e] at et
    exact AP (by omega) (Bb _ (by omega) ⟨k+1,rfl,by omega,by omega,rfl,et⟩)
  have eg:(L.getD ((k:Int).toNat) qq0).2=L[k].2:=by rw [Int.toNat_natCast];simp [List.getD,hkl]
  refine Z9 h hkl (AH (fun a=>Up h (by omega) (by rw [Int.toNat_natCast];exact hkl) ?_) (fun a=>k17 _ ?_))
  ·rw [eg]
   refine k17 _ ?_
   rw [decide_eq_true a,Bool.true_and]
  ·rw [decide_eq_false a,Bool.false_and]
 ·obtain rfl:k=L.length:=by omega
  rw [h3]
  intro _
  rw [List.take_length] at hj
  exact Ah ⟨by rw [hj],rfl⟩
end
end Go.Proofs.YthhadkggldcolaaGreat
