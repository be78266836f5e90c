/- Trimmed by wip/trim.py to what this claim rests on. -/
import Derived.Test.YtoelhdjloaknbaaGreatONc1
namespace Go.Proofs.YtoelhdjloaknbaaGreat
set_option maxRecDepth 100000
open Go.RowKit
def ST (l:List (Nat×Obj)) (A:Option Addr) (n c:Nat) (xs:List Bool) (σ τ:Hp):Prop:=∃ σ1,Bxs l σ σ1/\Ak 4 [.bool] σ1 A n c xs τ
section
variable {σ τ:Hp} {l:List (Nat×Obj)} {A:Option Addr} {n c:Nat} {xs:List Bool}
theorem ST.sub (h:ST l A n c xs σ τ):Hp.Sub σ τ:=by
 obtain ⟨σ1,h1,h2⟩:=h
 exact h1.sub.trans h2.sub
theorem ST.at (h:ST l A n c xs σ τ) {k b:Nat} {o:Obj} (hk:l[k]? = some (b,o)):τ b=some (o,true):=by
 obtain ⟨σ1,h1,h2⟩:=h
 exact h2.sub _ _ (h1.at hk)
theorem ST.set (h:ST l A n c xs σ τ) {k b:Nat} {o:Obj} (hk:l[k]? = some (b,o)) (o':Obj):ST (l.set k (b,o')) A n c xs σ (τ.ins b o'):=by
 obtain ⟨σ1,h1,h2⟩:=h
 exact ⟨_,h1.set hk o',AD.own.again h2 (h1.at hk) o'⟩
theorem ST.stv (h:ST l A n c xs σ τ) {k b i:Nat} {cc:Array Value} {e:TypeId} {v:Value} {K:Hp->Prop} (hk:l[k]? = some (b,.cells cc e (0,0))) (hi:i<cc.size)
  (hK:∀ τ',ST (l.set k (b,.cells (cc.setIfInBounds i v) e (0,0))) A n c xs σ τ'->K τ'):st τ b i v K:=by
 have hg:=h.at hk
 refine ⟨JW hg hi,?_⟩
 rw [DO hg]
 exact hK _ (h.set hk _)
theorem ST.rd (h:ST l A n c xs σ τ):RdS [.bool] τ A n xs:=by
 obtain ⟨σ1,h1,h2⟩:=h
 exact h2.rd
theorem ST.put (h:ST l A n c xs σ τ) {i:Nat} {v:Bool} {K:Hp->Prop} (hi:i<xs.length) (hK:∀ τ',ST l A n c (xs.set i v) σ τ'->K τ'):ix A n (i:Nat) 1 fun b a=>st τ b a (.bool v) K:=by
 obtain ⟨σ1,h1,h2⟩:=h
 have hl:n=xs.length:=h2.len
 obtain ⟨b,off,hA,_,hp⟩:=Ak.putX (ss:=[.bool]) h2 hi
 obtain ⟨w1,w2⟩:=hp 0 (.bool v) v rfl
 rw [hA]
 refine ⟨by omega,by omega,?_⟩
 rw [Cw,Int.toNat_natCast]
 have e5:off+(i*List.length [Sh.bool]+0)=off+i*1:=rfl
 rw [e5] at w1 w2
 rw [hA] at w2 hK
 exact ⟨w1,hK _ ⟨σ1,h1,w2⟩⟩
theorem AcF {A:Option Addr} {n c:Nat}:Ad Tryz.prog Ku #[.slice A n c] σ fun v σ'=>∃ b,v=.func (.func Eb) #[] #[.pointer (some ⟨b,0,none⟩)]/\Blk b (.cells #[.slice A n c] 26 (0,0)) σ σ':=by
 refine Hz _ _ _ _ _ ?_
 intro b nb
 exact Ag ⟨b,rfl,nb,rfl⟩
theorem Aau {y:Value} {b:Nat} {A:Option Addr} {n c:Nat} {xs:List Int} {I:Nat->Hp->Prop} {Q:Hp->Prop} (hn:n<=4294967296)
  (hI:∀ i τ,I i τ->τ b=some (.cells #[.slice A n c] 26 (0,0),true)/\RdS [.int .i64] τ A n xs)
  (hy:∀ i (h:i<xs.length) τ,I i τ->Ce Tryz.prog y #[.int .i64 ((xs.length-1-i:Nat):Int),.int .i64 (xs[xs.length-1-i]'(by omega))] τ fun v τ'=>∃ t:Bool,v=.bool t/\(t=true->I (i+1) τ')/\(t=false->Q τ'))
  (h0:I 0 σ):Ad Tryz.prog Eb #[y,.pointer (some ⟨b,0,none⟩)] σ fun _ σ'=>I xs.length σ'∨Q σ':=by
 refine Gw _ _ _ _ ?_
 unfold Cm
 obtain ⟨g0,r0⟩:=hI _ _ h0
 have hnx:n=xs.length:=r0.1
 refine AN (BH g0 rfl (AL (by omega) ?_))
 refine ⟨fun q i τ=>∃ k:Nat,q=xs.length-k/\i=(xs.length:Int)-1-k/\k<=xs.length/\I k τ,⟨_,0,rfl,by omega,by omega,h0⟩,?_⟩
 rintro q i τ ⟨k,rfl,rfl,hk,hIk⟩ _
 obtain ⟨g1,r1⟩:=hI _ _ hIk
 refine AA (fun hlt=>?_) (fun hge=>?_)
 ·refine AN (BH g1 rfl ?_)
  have ei:(xs.length:Int)-1-k=((xs.length-1-k:Nat):Int):=by omega
  rw [ei]
  refine Zo r1 (by omega) (by rw [Int.toNat_natCast];omega) ?_
  have:=hy k (by omega) τ hIk
  refine Ce.mono this ?_
  rintro v τ' ⟨t,rfl,ht,hq⟩
  refine ⟨t,rfl,Bd (fun e=>Ag (.inr (hq e))) (fun e=>AL (by omega) (A0 _ (by omega) ⟨k+1,rfl,by omega,by omega,ht e⟩))⟩
 ·obtain rfl:k=xs.length:=by omega
  exact Ag (.inl hIk)
end
def clm (ws:List Int) (lim:Int):Nat->Nat
 | 0=>0
 | i+1=>if lim<gt ws ((ws.length-1-i:Nat):Int) then 0 else clm ws lim i+1
theorem Wj {ws:List Int} {lim:Int}:∀ i,clm ws lim i<=i
 | 0=>Nat.le_refl _
 | i+1=>by
  have ih:=Wj (ws:=ws) (lim:=lim) i
  unfold clm
  split<;>omega
def P1 (ws:List Int) (lim em:Int) (t:Nat):Bool:=decide ((if ((ws.length-1-t:Nat):Int)<em then ((ws.length-1-t:Nat):Int) else em)<(clm ws lim (ws.length-t):Nat))
def Mq (ws:List Int) (lim em:Int) (i:Nat):List Bool:=(List.range ws.length).map fun t=>decide (ws.length-i<=t)&&P1 ws lim em t
def JR (ws:List Int) (lim em:Int):List Bool:=(List.range ws.length).map (P1 ws lim em)
theorem Y2 {ws:List Int} {lim em:Int} {i:Nat}:(Mq ws lim em i).length=ws.length:=by simp [Mq]
theorem Zw {ws:List Int} {lim em:Int}:(JR ws lim em).length=ws.length:=by simp [JR]
theorem Acn {ws:List Int} {lim em:Int}:Mq ws lim em 0=List.replicate ws.length false:=by
 apply List.ext_getElem
 ·simp [Mq]
 ·intro i h1 h2
  have:i<ws.length:=by simpa [Mq] using h1
  simp only [Mq,List.getElem_map,List.getElem_range,List.getElem_replicate]
  rw [decide_eq_false (by omega),Bool.false_and]
theorem Z2 {ws:List Int} {lim em:Int}:Mq ws lim em ws.length=JR ws lim em:=by
 unfold Mq JR
 refine List.map_congr_left fun t _=>?_
 rw [decide_eq_true (by omega),Bool.true_and]
theorem ZE {ws:List Int} {lim em:Int} {i:Nat} (hi:i<ws.length):(Mq ws lim em i).set (ws.length-1-i) (P1 ws lim em (ws.length-1-i))=Mq ws lim em (i+1):=by
 apply List.ext_getElem
 ·simp [Mq]
 ·intro t h1 h2
  have ht:t<ws.length:=by simpa [Mq] using h2
  rw [List.getElem_set]
  simp only [Mq,List.getElem_map,List.getElem_range]
  by_cases e:ws.length-1-i=t
  ·rw [if_pos e,decide_eq_true (by omega),Bool.true_and,e]
  ·rw [if_neg e]
   congr 1
   exact decide_eq_decide.2 (by omega)
def qq0:Int×Int:=(0,0)
def WR (l:List (Int×Int)):Int×Int:=l.getD (l.length-1) qq0
def ext (l:List (Int×Int)) (t:Int):List (Int×Int):=if 0<l.length/\(WR l).2=t then l.set (l.length-1) ((WR l).1,t+1) else l++[(t,t+1)]
def adj (ms:List Bool):Nat->List (Int×Int)
 | 0=>[]
 | k+1=>if ms.getD k false=true then ext (adj ms k) (k:Nat) else adj ms k
theorem Rx {ms:List Bool}:∀ k,(adj ms k).length<=k
 | 0=>Nat.le_refl _
 | k+1=>by
  have ih:=Rx (ms:=ms) k
  unfold adj
  split
  ·unfold ext
   split
   ·rw [List.length_set];omega
   ·simp;omega
  ·omega
abbrev s22:List Sh:=[.int .i64,.int .i64]
section
variable {σ:Hp}
theorem Z1 {A:Option Addr} {n:Nat} {xs:List Bool} {i:Nat} {K:Bool->Prop} (h:RdS [.bool] σ A n xs) (hn:i<xs.length) (hk:K xs[i]):ix A n (i:Nat) 1 fun b a=>ldB σ b a K:=
 Aap h (by omega) (by simpa using hn) (by simpa using hk)
theorem Wb {τ:Hp} {A:Option Addr} {n:Nat} {xs:List (Int×Int)} {i:Int} {K:Int->Prop} (h:RdS s22 τ A n xs) (hi:0<=i) (hn:i.toNat<xs.length) (hk:K (xs.getD i.toNat qq0).2):
  ix A n i 2 fun b a=>ix (some ⟨b,a,none⟩) 2 1 1 fun b' a'=>ldI τ .i64 b' a' K:=by
 refine CT (ss:=s22) h rfl hi hn fun b o hc=>?_
 have e:xs.getD i.toNat qq0=xs[i.toNat]:=by simp [List.getD,hn]
 rw [e] at hk
 exact ⟨by decide,by decide,Bq (hc 1 (by decide)) hk⟩
theorem YP {e:TypeId} {σ' τ:Hp} {A:Option Addr} {n c:Nat} {xs:List (Int×Int)} {i:Nat} {v:Int} {K:Hp->Prop} (h:Ak e s22 σ' A n c xs τ) (hn:i<xs.length)
  (hk:∀ τ',Ak e s22 σ' A n c (xs.set i ((xs.getD i qq0).1,v)) τ'->K τ'):ix A n (i:Nat) 2 fun b a=>ix (some ⟨b,a,none⟩) 2 1 1 fun b' a'=>st τ b' a' (.int .i64 v) K:=by
 have hl:n=xs.length:=h.len
 obtain ⟨b,off,hA,_,hp⟩:=Ak.putX (ss:=s22) h hn
 have e:xs.getD i qq0=xs[i]:=by simp [List.getD,hn]
 rw [e] at hk
 obtain ⟨w1,w2⟩:=hp 1 (.int .i64 v) (xs[i].1,v) rfl
 rw [hA]
 refine ⟨by omega,by omega,?_⟩
 refine ⟨by decide,by decide,?_⟩
 rw [Cw,Int.toNat_natCast]
 have e5:off+(i*(s22).length+1)=off+i*2+Kl (1:Int).toNat 1:=rfl
 rw [e5] at w1 w2
 rw [hA] at w2 hk
 exact ⟨w1,hk _ w2⟩
theorem Vd {A:Option Addr} {n c:Nat} {ws:List Int} {lim em:Int} (h:RdS [.int .i64] σ A n ws) (hl:ws.length<=500) (_:0<=em/\em<=100):Ad Tryz.prog Od #[.slice A n c,.int .i64 lim,.int .i64 em] σ (VX 44 s22 σ (adj (JR ws lim em) ws.length)):=by
 refine K7 _ _ _ _ _ _ _ ?_
 unfold ED
 have hn:=h.lenI
 refine ⟨by omega,by omega,by omega,Ab fun J3 h3=>?_⟩
 refine Bg Gc AcF ?_
 rintro v σ56 ⟨bb,rfl,hbb⟩
 refine ⟨_,rfl,?_⟩
 intro b58 n58 b60 n60 b62 n62 b64 n64 A66 n66 c66 σ67 ho b68 n68 lb Rec hlb hcall
 have hB1:Bxs [(bb,.cells #[.slice A n c] 26 (0,0)),(b58,.cells #[.slice A n c] 26 (0,0)),(b60,.cells #[.int .i64 lim] 3),(b62,.cells #[.int .i64 em] 3),(b64,.cells #[.int .i64 0] 3)] σ _:=⟨_,hbb,_,⟨n58,rfl⟩,_,⟨n60,rfl⟩,_,⟨n62,rfl⟩,_,⟨n64,rfl⟩,rfl⟩
 have hB2:Bxs [(b68,.cells #[.slice A66 n66 c66] 53 (0,0)),(lb,Rec .ready none)] σ67 _:=⟨_,⟨n68,rfl⟩,_,⟨hlb,rfl⟩,rfl⟩
 obtain ⟨σ1,hB3,ho2⟩:=AD.swap (R:=fun a c'=>Ak 4 [.bool] a A66 n66 c66 _ c') AD.own Bxs.port ho hB2
 have hS0:ST [(bb,.cells #[.slice A n c] 26 (0,0)),(b58,.cells #[.slice A n c] 26 (0,0)),(b60,.cells #[.int .i64 lim] 3),(b62,.cells #[.int .i64 em] 3),(b64,.cells #[.int .i64 0] 3),(b68,.cells #[.slice A66 n66 c66] 53 (0,0)),(lb,Rec .ready none)] A66 n66 c66 (Mq ws lim em 0) σ _:=⟨_,hB1.app hB3,by
  rw [Acn]
  have e:((n:Nat):Int).toNat=ws.length:=by omega
  rw [e] at ho2
  exact ho2⟩
 clear hB1 hB2 hB3 ho2 ho
 refine U1.nf FD (Ad.mono (Aau (y:=.func (.yield lb) #[] #[]) (b:=bb) (A:=A) (n:=n) (c:=c) (xs:=ws)
  (I:=fun i τ=>ST [(bb,.cells #[.slice A n c] 26 (0,0)),(b58,.cells #[.slice A n c] 26 (0,0)),(b60,.cells #[.int .i64 lim] 3),(b62,.cells #[.int .i64 em] 3),(b64,.cells #[.int .i64 (clm ws lim i:Nat)] 3),(b68,.cells #[.slice A66 n66 c66] 53 (0,0)),(lb,Rec .ready none)] A66 n66 c66 (Mq ws lim em i) σ τ)
  (Q:=fun _=>False) (by omega) (fun i τ hS=>⟨hS.at (k:=0) rfl,h.sub hS.sub⟩) (fun i hi τ hS=>?_) hS0) ?_)
 ·refine hcall _ _ _ (hS.at (k:=6) rfl) ⟨_,_,rfl,fun _=>⟨hS.at (k:=6) rfl,?_⟩⟩
  have h3:=hS.set (k:=6) rfl (Rec .busy none)
  generalize τ.ins lb (Rec .busy none)=τ9 at h3 ⊢
  have hc:=Wj (ws:=ws) (lim:=lim) i
  refine Bu (h3.at (k:=4) rfl) rfl (AL (by omega) (h3.stv (k:=4) rfl Nat.zero_lt_one fun τ2 h4=>?_))
  refine Ab fun J86 h86=>?_
  have k86:∀ τ3,ST [(bb,.cells #[.slice A n c] 26 (0,0)),(b58,.cells #[.slice A n c] 26 (0,0)),(b60,.cells #[.int .i64 lim] 3),(b62,.cells #[.int .i64 em] 3),(b64,.cells #[.int .i64 (clm ws lim (i+1):Nat)] 3),(b68,.cells #[.slice A66 n66 c66] 53 (0,0)),(lb,Rec .busy none)] A66 n66 c66 (Mq ws lim em i) σ τ3->J86 τ3:=by
   intro τ3 h5
   rw [h86]
   intro _
   refine BH (h5.at (k:=5) rfl) rfl (Bu (h5.at (k:=4) rfl) rfl (Bu (h5.at (k:=3) rfl) rfl (BH (h5.at (k:=1) rfl) rfl (AL (by omega) (AL (by omega) (h5.put (by rw [Y2];omega) fun τ4 h6=>?_))))))
   have e1:decide ((if ((n:Nat):Int)-1-((ws.length-1-i:Nat):Int)<em then ((n:Nat):Int)-1-((ws.length-1-i:Nat):Int) else em)<(clm ws lim (i+1):Nat))=P1 ws lim em (ws.length-1-i):=by
    unfold P1
    have a1:((n:Nat):Int)-1-((ws.length-1-i:Nat):Int)=((ws.length-1-(ws.length-1-i):Nat):Int):=by omega
    have a2:ws.length-(ws.length-1-i)=i+1:=by omega
    rw [a1,a2]
   rw [e1,ZE hi] at h6
   exact ⟨h6.at (k:=6) rfl,true,rfl,fun _=>h6.set (k:=6) rfl (Rec .ready none),fun e=>by cases e⟩
  have eg:ws[ws.length-1-i]'(by omega)=gt ws ((ws.length-1-i:Nat):Int):=(B9 (by omega)).symm
  rw [eg]
  unfold clm at k86
  refine Bu (h4.at (k:=2) rfl) rfl (AA (fun a=>h4.stv (k:=4) rfl (by simp) fun τ3 h5=>k86 _ ?_) (fun a=>k86 _ ?_))
  ·rw [if_pos a]
   exact h5
  ·rw [if_neg a]
   have:(((clm ws lim i+1:Nat):Nat):Int)=(clm ws lim i:Nat)+1:=by omega
   rw [this]
   exact h4
 ·rintro v τ (hS | hf)
  ·refine ⟨.ready,none,hS.at (k:=6) rfl,rfl,?_⟩
   have hS:=hS.set (k:=6) rfl (Rec .exhausted none)
   generalize τ.ins lb (Rec .exhausted none)=τ1 at hS ⊢
   rw [Z2] at hS
   show J3 _ _
   rw [h3]
   intro _
   refine Ab fun J7 h7=>AN (BH (hS.at (k:=5) rfl) rfl ?_)
   have hr:=hS.rd
   have hsz:=hS.sub
   have hml:=Zw (ws:=ws) (lim:=lim) (em:=em)
   have hn66:n66=ws.length:=by rw [hr.1];exact hml
   clear hS hS0 hcall h3 hlb
   generalize JR ws lim em=ms at *
   refine ⟨fun q A' n' c' i τ2=>∃ k:Nat,q=ws.length-k/\i=k/\k<=ws.length/\Ak 44 s22 τ1 A' n' c' (adj ms k) τ2,⟨_,0,rfl,rfl,by omega,Ak.nil ..⟩,?_⟩
   rintro q A' n' c' i τ2 ⟨k,rfl,rfl,hk,hoq⟩ _
   refine AA (fun hlt=>?_) (fun hlt=>?_)
   ·have hkl:k<ws.length:=by omega
    have hal:=Rx (ms:=ms) k
    have hql:n'=(adj ms k).length:=hoq.len
    refine Ab fun J20 h20=>Z1 (hr.sub hoq.sub) (by omega) ?_
    have k20:∀ A' n' c' τ',Ak 44 s22 τ1 A' n' c' (adj ms (k+1)) τ'->J20 A' n' c' τ':=by
     intro A' n' c' τ' h'
     rw [h20]
     intro _
     exact AL (by omega) (A0 _ (by omega) ⟨k+1,rfl,by omega,by omega,h'⟩)
    have eb:ms.getD k false=ms[k]'(by omega):=by simp [List.getD,show k<ms.length by omega]
    unfold adj at k20
    rw [eb] at k20
    cases em2:ms[k]'(by omega) with
    | false=>
     rw [em2,if_neg (by decide)] at k20
     exact Acm (k20 _ _ _ _ hoq)
    | true=>
     rw [em2,if_pos rfl] at k20
     refine AbC (Ab fun J30 h30=>?_)
     have k30:∀ t,t=decide (0<(adj ms k).length/\(WR (adj ms k)).2=(k:Nat))->J30 t τ2:=by
      rintro t rfl
      rw [h30]
      intro _
      unfold ext at k20
      generalize adj ms k=L at *
      refine AA (fun a=>?_) (fun a=>?_)
      ·rw [if_pos a] at k20
       have el:((n':Nat):Int)-1=((L.length-1:Nat):Int):=by omega
       refine AL (by omega) ?_
       rw [el]
       refine Wb hoq.rd (by omega) (by omega) ?_
       have e1:(L.getD (((L.length-1:Nat):Int).toNat) qq0).2=(k:Nat):=by rw [Int.toNat_natCast];exact a.2
       rw [e1]
       refine AL (by omega) (YP hoq (by omega) fun τ' h'=>?_)
       exact k20 _ _ _ _ h'
      ·rw [if_neg a] at k20
       refine AL (by omega) (Cj hoq (Be (by show L.length+1<=_;omega) ?_))
       intro A2 n2 c2 τ' h'
       exact k20 _ _ _ _ h'
     refine AA (fun a=>?_) (fun a=>k30 _ ?_)
     ·have el:((n':Nat):Int)-1=(((adj ms k).length-1:Nat):Int):=by omega
      refine AL (by omega) ?_
      rw [el]
      refine Wb hoq.rd (by omega) (by omega) (k30 _ ?_)
      rw [Int.toNat_natCast]
      exact decide_eq_decide.2 ⟨fun x=>⟨by omega,x⟩,fun x=>x.2⟩
     ·symm
      exact decide_eq_false fun x=>a (by omega)
   ·obtain rfl:k=ws.length:=by omega
    rw [h7]
    intro _
    obtain ⟨σ4,h6,h7'⟩:=AD.own.less (R:=fun a c''=>Ak 44 s22 a A' n' c' (adj ms ws.length) c'') hoq hsz
    exact Bx h7' ⟨A',n',c',rfl,h6⟩
  ·exact hf.elim
end
end Go.Proofs.YtoelhdjloaknbaaGreat
