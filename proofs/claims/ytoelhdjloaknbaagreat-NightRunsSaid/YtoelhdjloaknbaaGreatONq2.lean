/- Trimmed by wip/trim.py to what this claim rests on. -/
import Derived.Test.YtoelhdjloaknbaaGreatONq1
import Derived.Test.YtoelhdjloaknbaaGreatOW1
import Derived.Test.YtoelhdjloaknbaaGreatONe5
namespace Go.Proofs.YtoelhdjloaknbaaGreat
open Go.RowKit
theorem Vp {ws:List Int} {lim:Int}:∀ i,i<=ws.length->(∀ j:Nat,ws.length-i<=j->j<ws.length-i+clm ws lim i->gt ws (j:Nat)<=lim)/\(clm ws lim i<i->lim<gt ws ((ws.length-i+clm ws lim i:Nat):Int))
 | 0,_=>⟨fun j h1 h2=>by unfold clm at h2;omega,fun h=>by omega⟩
 | i+1,hi=>by
  obtain ⟨h1,h2⟩:=Vp (ws:=ws) (lim:=lim) i (by omega)
  unfold clm
  have e1:ws.length-1-i=ws.length-(i+1):=by omega
  by_cases c:lim<gt ws ((ws.length-1-i:Nat):Int)
  ·rw [if_pos c]
   refine ⟨fun j a b=>by omega,fun _=>?_⟩
   rw [e1] at c
   exact c
  ·rw [if_neg c]
   refine ⟨fun j a b=>?_,fun a=>?_⟩
   ·rcases Nat.lt_or_ge j (ws.length-i) with h3 | h3
    ·have:j=ws.length-1-i:=by omega
     rw [this]
     omega
    ·exact h1 j h3 (by omega)
   ·have:=h2 (by omega)
    have e2:ws.length-(i+1)+(clm ws lim i+1)=ws.length-i+clm ws lim i:=by omega
    rw [e2]
    exact this
theorem ZA {ws:List Int} {lim em:Int} {t:Nat} (ht:t<ws.length) (_:0<=em):P1 ws lim em t=true↔∀ j:Nat,t<=j->(j:Int)<=t+em->j<ws.length->gt ws (j:Nat)<=lim:=by
 obtain ⟨h1,h2⟩:=Vp (ws:=ws) (lim:=lim) (ws.length-t) (by omega)
 have hle:=Wj (ws:=ws) (lim:=lim) (ws.length-t)
 have e1:ws.length-(ws.length-t)=t:=by omega
 rw [e1] at h1 h2
 unfold P1
 generalize clm ws lim (ws.length-t)=c at *
 rw [decide_eq_true_eq]
 constructor
 ·intro h j a b d
  refine h1 j a ?_
  split at h<;>omega
 ·intro h
  rcases Nat.lt_or_ge c (ws.length-t) with h3 | h3
  ·have h4:=h2 h3
   by_cases h5:((t+c:Nat):Int)<=t+em
   ·have:=h (t+c) (by omega) h5 (by omega)
    omega
   ·split<;>omega
  ·split<;>omega
def Gal.runA (g:Gal) (ws:List Int) (i:Nat):List (Int×Int):=if (i:Int)∈g.open then adj (JR ws (gt g.li (i:Nat)) (gt g.em (i:Nat))) ws.length else []
def Gal.runE (g:Gal) (ws:List Int):Int:=if g.chk=0 then (if 500<ws.length then 2 else if (ws.any fun x=>!Inn x 0 200)=true then 1 else 0) else g.chk
def RnR (σ:Hp) (g:Gal) (ws:List Int):Value->Hp->Prop:=fun v σ'=>∃ (s:SL) (ys:List (Option Addr×Nat×Nat)),v=.tuple #[s.v,.int .i64 (g.runE ws)]/\Hp.Sub σ σ'/\(g.runE ws=0->RdS [.slc] σ' s.A s.n ys/\ys.length=g.B.length/\∀ i,(h:i<ys.length)->RdS s22 σ' ys[i].1 ys[i].2.1 (g.runA ws i))/\(¬ g.runE ws=0->s.n=0)
theorem RnR.err {σ:Hp} {g:Gal} {ws:List Int} {e:Int} (h:g.runE ws=e) (h0:¬ e=0):RnR σ g ws (.tuple #[.slice none 0 0,.int .i64 e]) σ:=⟨⟨none,0,0⟩,[],by rw [h];rfl,Hp.Sub.refl _,fun h2=>absurd (h▸h2) h0,fun _=>rfl⟩
def Gal.runP (g:Gal) (ws:List Int) (l:List Int) (i:Nat):List (Int×Int):=if (i:Int)∈l then g.runA ws i else []
theorem Yk {g:Gal} {ws l:List Int} {r:Nat} (h:(r:Int)∈g.open):g.runP ws (l++[(r:Int)]) r=adj (JR ws (gt g.li (r:Nat)) (gt g.em (r:Nat))) ws.length:=by
 unfold Gal.runP
 rw [if_pos (by simp)]
 exact if_pos h
theorem AaN {g:Gal} {ws l:List Int} {r i:Nat} (h:¬ r=i):g.runP ws (l++[(r:Int)]) i=g.runP ws l i:=by
 unfold Gal.runP
 have e2:((i:Int)∈l++[(r:Int)])=((i:Int)∈l):=by
  apply propext
  simp only [List.mem_append,List.mem_singleton]
  exact ⟨fun x=>x.elim id (fun y=>by omega),.inl⟩
 simp only [e2]
theorem Zd {g:Gal} {ws:List Int} {i:Nat}:g.runP ws g.open i=g.runA ws i:=by
 unfold Gal.runP Gal.runA
 split<;>rfl
theorem AaW {ys:List (Option Addr×Nat×Nat)} {r i:Nat} {x:Option Addr×Nat×Nat} (h:i<(ys.set r x).length) (h':i<ys.length):(ys.set r x)[i]=if r=i then x else ys[i]:=List.getElem_set ..
section
variable {σ:Hp} {W:GaW} {g:Gal}
theorem ZK {x:Int}:cl Tryz.prog (.func (.func R8) #[] #[]) #[.int .i64 x] σ fun v σ'=>v=.bool (!Inn x 0 200)/\σ'=σ:=by
 refine Ce.func Lv (N8 _ _ _ ?_)
 unfold GK
 exact YM (Ag ⟨rfl,rfl⟩)
set_option maxRecDepth 100000 in
theorem AaM {A:Option Addr} {n c:Nat} {ws:List Int} (h:GaR σ W g) (hw:RdS [.int .i64] σ A n ws) (hl:ws.length<=4294967296):Ad Tryz.prog TO #[W.v g,.slice A n c] σ (RnR σ g ws):=by
 refine Q8 _ _ _ _ _ _ _ _ _ _ _ _ _ _ _ _ _ _ _ _ _ _ _ _ _ _ _ _ _ _ _ _ _ _ _ _ _ ?_
 unfold I5
 have hn:=hw.lenI
 have hrn:=h.rn
 refine clI Dq (RO h) (Bi (fun e=>Ag (RnR.err (if_neg e) e)) (fun e=>?_))
 have eE:g.runE ws=if 500<ws.length then 2 else if (ws.any fun x=>!Inn x 0 200)=true then 1 else 0:=if_pos e
 refine AA (fun a=>Ag (RnR.err (by rw [eE,if_pos (by omega)]) (by decide))) (fun a=>?_)
 rw [if_neg (by omega)] at eE
 refine clB Bc (Lo (p:=fun x=>!Inn x 0 200) hw hl fun x _=>ZK) (B0 (fun b=>Ag (RnR.err (by rw [eE,if_pos b]) (by decide))) (fun b=>?_))
 rw [if_neg (by rw [b];decide)] at eE
 have hg:=Gal.chk_ok e
 have hB:=hg.n
 refine ⟨by omega,by omega,by omega,Ab fun J9 h9=>?_⟩
 refine Bg Dr (RK h hg) ?_
 rintro v σ14 ⟨A15,n15,c15,rfl,ho⟩
 have hs14:=ho.sub
 have hro:RdS [.int .i64] σ14 A15 n15 g.open:=ho.RdI
 have hol:=hg.open_len
 have hn15:=hro.lenI
 clear ho
 refine ⟨_,_,_,rfl,?_⟩
 refine ⟨fun q i ys τ=>∃ k:Nat,q=g.open.length-k/\i=k/\k<=g.open.length/\Hp.Sub σ14 τ/\ys.length=g.B.length/\∀ i,(h:i<ys.length)->RdS s22 τ ys[i].1 ys[i].2.1 (g.runP ws (g.open.take k) i),⟨_,0,rfl,rfl,by omega,Hp.Sub.refl _,by rw [List.length_replicate];omega,fun i hi=>?_⟩,?_⟩
 ·rw [List.getElem_replicate]
  exact (Ak.nil 44 s22 σ14).rd
 rintro q i ys τ ⟨k,rfl,rfl,hk,hsτ,hyl,hy⟩ _
 refine AA (fun hlt=>?_) (fun hlt=>?_)
 ·have hkl:k<g.open.length:=by omega
  have hm:=List.getElem_mem hkl
  have hin:=hg.open_in hm
  have hli:=hg.nli
  have hem:=hg.nem
  refine DA (hro.sub hsτ) (by omega) (by omega) ?_
  rw [B9 hkl]
  have etk:g.open.take (k+1)=g.open.take k++[g.open[k]]:=List.take_succ_eq_append_getElem hkl
  have hhτ:=h.sub (hs14.trans hsτ)
  have hwτ:=hw.sub (hs14.trans hsτ)
  generalize g.open[k]=r at *
  obtain ⟨r,rfl⟩:=Int.eq_ofNat_of_zero_le hin.1
  refine DA hhτ.li (by omega) (by omega) (DA hhτ.em (by omega) (by omega) ?_)
  have hem2:0<=gt g.em (r:Nat)/\gt g.em (r:Nat)<=100:=hg.em _ (Zk (by omega))
  refine Bg IV (Vd hwτ (by omega) hem2) ?_
  rintro v τ2 ⟨A33,n33,c33,rfl,ho33⟩
  refine ⟨_,_,_,rfl,by omega,by rw [hyl];omega,⟨by rw [Int.toNat_natCast];omega,AL (by omega) (A0 _ (by omega) ⟨k+1,rfl,by omega,by omega,hsτ.trans ho33.sub,by rw [List.length_set];exact hyl,fun i hi=>?_⟩)⟩⟩
  have hi':i<ys.length:=by rwa [List.length_set] at hi
  rw [AaW hi hi',Int.toNat_natCast,etk]
  by_cases e1:r=i
  ·subst e1
   rw [if_pos rfl,Yk hm]
   exact ho33.rd
  ·rw [if_neg e1,AaN e1]
   exact (hy i hi').sub ho33.sub
 ·obtain rfl:k=g.open.length:=by omega
  rw [h9]
  intro _ A11 n11 c11 σ12 ho11
  refine Ag ⟨⟨A11,n11,c11⟩,ys,by rw [eE];rfl,hs14.trans (hsτ.trans ho11.sub),fun _=>⟨ho11.rd,hyl,fun i hi=>?_⟩,fun x=>absurd eE x⟩
  have:=(hy i hi).sub ho11.sub
  rw [List.take_length,Zd] at this
  exact this
end
end Go.Proofs.YtoelhdjloaknbaaGreat
