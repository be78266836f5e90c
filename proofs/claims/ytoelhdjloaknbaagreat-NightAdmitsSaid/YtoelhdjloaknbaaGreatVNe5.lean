/- What this claim rests on. -/
import Derived.Test.YtoelhdjloaknbaaGreatVNc1
import Derived.Test.YtoelhdjloaknbaaGreatVNe1
import Derived.Test.YtoelhdjloaknbaaGreatVNe4
namespace Go.Proofs.YtoelhdjloaknbaaGreat
set_option maxRecDepth 100000
open Go.RowKit Go.Proofs.Tryz
def Gal.flg (g:Gal) (l:List Int):List Bool:=(List.range g.B.length).map fun i:Nat=>decide ((i:Int)∈l)
theorem Gal.flg_len {g:Gal} {l:List Int}:(g.flg l).length=g.B.length:=by simp [Gal.flg]
theorem Gal.flg_set {g:Gal} {l:List Int} {r:Nat}:(g.flg l).set r true=g.flg (l++[(r:Int)]):=by
 apply List.ext_getElem
 ·simp [Gal.flg]
 ·intro i h1 h2
  have hi:i<g.B.length:=by simpa [Gal.flg] using h2
  rw [List.getElem_set]
  unfold Gal.flg
  simp only [List.getElem_map,List.getElem_range,List.mem_append,List.mem_singleton]
  by_cases e:r=i
  ·rw [if_pos e]
   subst e
   simp
  ·rw [if_neg e]
   have:¬ (i:Int)=(r:Nat):=by omega
   simp [this]
section
variable {σ:Hp} {W:GaW} {g:Gal}
theorem Aej {n lo hi:Int}:Af prog 40 #[aD n,aD lo,aD hi] σ fun v σ'=>v=.bool (Inn n lo hi)/\σ'=σ:=by
 apply TG
 unfold Kg
 refine Az (fun h=>Ai ⟨?_,rfl⟩) (fun h=>Ai ⟨?_,rfl⟩)
 ·simp [Inn,h]
 ·simp [Inn,h]
theorem Aai {n lo hi:Int} {K:Bool->Hp->Prop} (h:K (Inn n lo hi) σ):aC 40 #[aD n,aD lo,aD hi] σ fun v σ'=>∃ t:Bool,(v=.bool t/\K t σ'):=clB (aW 40) Aej h
theorem Adb (h:GaR σ W g) (hB:g.B.length<=4294967296) (hc:W.e.n<=W.e.c):Af prog 39 #[W.v g] σ fun v σ'=>v=aD g.chk/\σ'=σ:=by
 apply RM
 unfold Jd
 have hrn:=h.rn
 have hIn:=h.k.b.in
 have hLn:=h.s.ln
 have hln:W.li.n=g.li.length:=h.li.lenI
 have hmn:W.em.n=g.em.length:=h.em.lenI
 have hq:Af prog 77 #[.agg #[W.r.v,aD g.w],aN none 0 0] σ fun v σ'=>v=aD (Ey g.w g.B [])/\σ'=σ:=by
  have h1:=Ps (w:=g.w) h.ev hB (Nat.zero_le _) (fun k hk=>absurd hk (Nat.not_lt_zero _))
  exact h1
 refine clI (aW 77) hq (Bs (fun e=>Ai ⟨?_,rfl⟩) (fun e1=>?_))
 ·unfold Gal.chk;rw [if_neg e]
 refine Bd (aW 78) (YC h.k hc) ?_
 rintro v τ ⟨rfl,rfl⟩
 refine ⟨_,_,rfl,Bs (fun e=>Ai ⟨?_,rfl⟩) (fun e2=>clI (aW 79) (W5 h.s) (Bs (fun e=>Ai ⟨?_,rfl⟩) (fun e3=>?_)))⟩
 ·unfold Gal.chk;rw [if_pos e1,if_neg e]
 ·unfold Gal.chk;rw [if_pos e1,if_pos e2,if_neg e]
 have ec:g.chk=if g.ok1&&g.ok2 then 0 else 120:=by unfold Gal.chk;rw [if_pos e1,if_pos e2,if_pos e3]
 have hB:g.B.length<=8:=(CB e1).m
 rw [ec]
 refine Ad fun J13 h13=>Ad fun J46 h46=>?_
 have k46:∀ t,t=!g.ok1->J46 t τ:=by
  rintro t rfl
  rw [h46]
  intro _
  refine Bp (fun e=>Ai ⟨?_,rfl⟩) (fun e4=>?_)
  ·rw [e];rfl
  have e4':=e4
  unfold Gal.ok1 at e4'
  simp only [Bool.and_eq_true,decide_eq_true_eq] at e4'
  rw [h13]
  intro _
  refine Ad fun J16 h16=>?_
  refine ⟨fun m i t'=>∃ k:Nat,m=g.B.length-k/\i=k/\k<=g.B.length/\t'=τ/\∀ j,j<k->Inn (gt g.li (j:Nat)) 0 200=true/\Inn (gt g.em (j:Nat)) 0 100=true,⟨_,0,rfl,rfl,by omega,rfl,fun j hj=>by omega⟩,?_⟩
  rintro m i t' ⟨k,rfl,rfl,hk,rfl,hj⟩ _
  refine Az (fun hlt=>?_) (fun hlt=>?_)
  ·have hkl:k<g.B.length:=by omega
   refine Ad fun J24 h24=>Ad fun J30 h30=>?_
   have k30:∀ t,t=!(Inn (gt g.li (k:Nat)) 0 200&&Inn (gt g.em (k:Nat)) 0 100)->J30 t t':=by
    rintro t rfl
    rw [h30]
    intro _
    refine Bp (fun e=>Ai ⟨?_,rfl⟩) (fun e=>?_)
    ·have:g.ok2=false:=by
      unfold Gal.ok2
      cases e5:Inn (gt g.li (k:Nat)) 0 200 with
      | false=>
       rw [BJ (by omega)] at e5
       have:g.li.all (Inn · 0 200)=false:=XK (by omega) e5
       rw [this];rfl
      | true=>
       rw [e5,Bool.true_and,BJ (by omega)] at e
       have:g.em.all (Inn · 0 100)=false:=XK (by omega) e
       rw [this,Bool.and_false]
     rw [this,Bool.and_false];rfl
    ·rw [h24]
     intro _
     refine AQ (by omega) (AX _ (by omega) ⟨k+1,rfl,by omega,by omega,rfl,fun j h1=>?_⟩)
     rcases Nat.lt_or_ge j k with h2 | h2
     ·exact hj j h2
     ·obtain rfl:j=k:=by omega
      simpa using e
   refine Ch h.li (by omega) (by omega) (Aai (Bp (fun e=>k30 _ ?_) (fun e=>Ch h.em (by omega) (by omega) (Aai (k30 _ ?_)))))
   ·rw [e];rfl
   ·rw [e,Bool.true_and]
  ·rw [h16]
   intro _
   refine Ai ⟨?_,rfl⟩
   have:g.ok2=true:=by
    unfold Gal.ok2
    rw [Bool.and_eq_true]
    refine ⟨Xl fun j hj2=>?_,Xl fun j hj2=>?_⟩
    ·have:=(hj j (by omega)).1
     rwa [BJ hj2] at this
    ·have:=(hj j (by omega)).2
     rwa [BJ hj2] at this
   rw [e4,this];rfl
 clear h46 h13
 refine Bs (fun e=>k46 _ ?_) (fun a1=>Bs (fun e=>k46 _ ?_) (fun a2=>Bs (fun e=>k46 _ ?_) (fun a3=>Bs (fun e=>k46 _ ?_) (fun a4=>Aai (k46 _ ?_)))))
 ·have:¬ g.b.I.length=g.B.length:=by omega
  simp [Gal.ok1,this]
 ·have:¬ g.S.L.length=g.B.length:=by omega
  simp [Gal.ok1,this]
 ·have:¬ g.li.length=g.B.length:=by omega
  simp [Gal.ok1,this]
 ·have:¬ g.em.length=g.B.length:=by omega
  simp [Gal.ok1,this]
 ·have b1:g.b.I.length=g.B.length:=by omega
  have b2:g.S.L.length=g.B.length:=by omega
  have b3:g.li.length=g.B.length:=by omega
  have b4:g.em.length=g.B.length:=by omega
  simp [Gal.ok1,b1,b2,b3,b4]
theorem Ad1 (h:GaR σ W g) (hg:GK g) (hc:W.e.n<=W.e.c):Af prog 41 #[W.v g] σ (Abu 4 [.bool] σ (g.flg g.open)):=by
 apply TF
 unfold KD
 have hn8:=hg.n
 have hrn:=h.rn
 refine ⟨by omega,by omega,by omega,?_⟩
 refine Bd (aW 80) (X4 (day:=g.day) h.k hc) ?_
 rintro v σ2 ⟨A,n,c,rfl,ho⟩
 have hs2:=ho.sub
 have hrd:=ho.rd
 have hn:n=g.rel.length:=ho.len
 have hrd:RdS aM σ2 A n g.rel:=hrd
 have hrl:=hg.rel_len
 have hS:=Sup.ok_spec hg.s
 have hnl:=hS.nl
 clear ho
 refine ⟨_,_,_,_,rfl,Ad fun J7 h7=>?_⟩
 refine ⟨fun q m i xs τ=>∃ k:Nat,q=g.rel.length-k/\m=((g.opS k).1:Nat)/\i=k/\k<=g.rel.length/\τ=σ2/\xs=g.flg (g.opS k).2,⟨_,0,rfl,rfl,rfl,by omega,rfl,?_⟩,?_⟩
 ·rw [hrn]
  apply List.ext_getElem
  ·simp [Gal.flg]
  ·intro i h1 h2
   simp [Gal.flg,Gal.opS]
 rintro q m i xs τ ⟨k,rfl,rfl,rfl,hk,rfl,rfl⟩ _
 refine Az (fun hlt=>?_) (fun hlt=>?_)
 ·have hkl:k<g.rel.length:=by omega
  have hr:=hg.rel_in (List.getElem_mem hkl)
  have hsucc:=Gal.opS_succ hkl
  refine Ad fun J18 h18=>Ch hrd (by omega) (by omega) ?_
  rw [BJ hkl]
  have k18:J18 ((g.opS (k+1)).1:Nat) (g.flg (g.opS (k+1)).2) τ:=by
   rw [h18]
   intro _
   exact AQ (by omega) (AX _ (by omega) ⟨k+1,rfl,rfl,by omega,by omega,rfl,rfl⟩)
  clear h18
  rw [hsucc] at k18
  have hlt1:=hg.set_lt k hk
  generalize g.rel[k]=r at *
  generalize g.opS k=s at *
  obtain ⟨j,rfl⟩:∃ j:Nat,r=j:=⟨r.toNat,by omega⟩
  have hj:j<=30:=by omega
  have e1:=TQ (n:=j) (by omega)
  have e2:=RH hj
  have e0:0<2^j:=Nat.pow_pos (by omega)
  have h62:s.1<2^62:=Nat.lt_of_lt_of_le hlt1 (Nat.pow_le_pow_right (by omega) (by omega))
  have hj62:2^j<2^62:=Nat.pow_lt_pow_right (by omega) (by omega)
  have e3:=Abz h62 hj62
  have hlt2:XB s.1 j<2^g.S.L.length:=Wv hlt1 (by rw [hg.nL];omega)
  have hp20:=RH (n:=g.S.L.length) (by omega)
  have e4:((s.1 ||| 2^j:Nat):Int)=((XB s.1 j:Nat):Int):=rfl
  have hfl:(g.flg s.2).length=g.B.length:=Gal.flg_len
  refine V4 (by omega) ⟨by omega,?_⟩
  rw [e1]
  refine AQ (by omega) ?_
  rw [e3,e4]
  refine AQ (by omega) ?_
  refine Bd (aW 81) (AdF (h.sub hs2).s) ?_
  rintro v t' ⟨rfl,rfl⟩
  unfold opF at k18
  rw [Int.toNat_natCast] at k18
  refine ⟨_,_,_,rfl,BO (fun e=>V4 (by omega) ⟨by omega,?_⟩) (fun e=>?_)⟩
  ·rw [if_pos e] at k18
   rw [e1]
   refine AQ (by omega) ?_
   rw [e3,e4]
   refine AQ (by omega) ⟨by omega,by omega,?_⟩
   refine ⟨by rw [hfl];omega,?_⟩
   show J18 _ ((g.flg s.2).set j true) _
   rw [Gal.flg_set]
   exact k18
  ·rw [if_neg (by rw [e];decide)] at k18
   exact k18
 ·obtain rfl:k=g.rel.length:=by omega
  rw [h7]
  intro _ A' n' c' s3 ho
  obtain ⟨s4,h6,h7'⟩:=Au.own.less (R:=fun a c''=>Aj 4 [.bool] a A' n' c' (g.flg (g.opS g.rel.length).2) c'') ho hs2
  exact BL h7' ⟨_,_,_,rfl,h6⟩
theorem AdO {A:aA} {n:Nat} {xs:List Bool} {i:Nat} {K:Bool->Prop} (h:RdS [.bool] σ A n xs) (hn:i<xs.length) (hk:K xs[i]):ix A n (i:Nat) 1 fun b a=>ldB σ b a K:=
 Ae3 h (by omega) (by simpa using hn) (by simpa using hk)
end
end Go.Proofs.YtoelhdjloaknbaaGreat
