/- Trimmed by wip/trim.py to what this claim rests on. -/
import Derived.Test.YthhadkggldcolaaGreatVNc1
import Derived.Test.YthhadkggldcolaaGreatVNe3
import Derived.Test.YthhadkggldcolaaGreatVNe4
import Derived.Test.YthhadkggldcolaaGreatVR4
namespace Go.Proofs.YthhadkggldcolaaGreat
set_option maxRecDepth 100000
open Go.RowKit
def Gal.flg (g:Gal) (l:List Int):List Bool:=(List.range g.B.length).map fun i:Nat=>decide ((i:Int)∈l)
theorem Gal.flg_len {g:Gal} {l:List Int}:(g.flg l).length=g.B.length:=by simp [Gal.flg]
theorem Gal.flg_set {g:Gal} {l:List Int} {r:Nat}:(g.flg l).set r true=g.flg (l++[(r:Int)]):=by
 apply List.ext_getElem
 ·simp [Gal.flg]
 ·intro i h1 h2
  have hi:i<g.B.length:=by simpa [Gal.flg] using h2
  rw [List.getElem_set]
  unfold Gal.flg
  simp only [List.getElem_map,List.getElem_range,List.mem_append,List.mem_singleton]
  by_cases e:r=i
  ·rw [if_pos e]
   subst e
   simp
  ·rw [if_neg e]
   have:¬ ((i:Nat):Int)=(r:Nat):=by omega
   simp [this]
section
variable {σ:Hp} {W:GaW} {g:Gal}
theorem AcS {n lo hi:Int}:Af Tryz.prog Pp #[.int .i64 n,.int .i64 lo,.int .i64 hi] σ fun v σ'=>v=.bool (Inn n lo hi)/\σ'=σ:=by
 refine R8 _ _ _ _ _ ?_
 unfold KO
 refine AA (fun h=>Ah ⟨?_,rfl⟩) (fun h=>Ah ⟨?_,rfl⟩)
 ·simp [Inn,h]
 ·simp [Inn,h]
theorem Ab6 {n lo hi:Int} {K:Bool->Hp->Prop} (h:K (Inn n lo hi) σ):cl Tryz.prog (.func (.func Pp) #[] #[]) #[.int .i64 n,.int .i64 lo,.int .i64 hi] σ fun v σ'=>∃ t:Bool,(v=.bool t/\K t σ'):=clB Pc AcS h
theorem AaY (h:GaR σ W g) (hB:g.B.length<=4294967296) (hc:W.e.n<=W.e.c):Af Tryz.prog Uv #[W.v g] σ fun v σ'=>v=.int .i64 g.chk/\σ'=σ:=by
 refine QP _ _ _ _ _ _ _ _ _ _ _ _ _ _ _ _ _ _ _ _ _ _ _ _ _ _ _ _ _ _ _ _ _ _ ?_
 unfold H9
 have hrn:=h.rn
 have hIn:=h.k.b.in
 have hLn:=h.s.ln
 have hln:W.li.n=g.li.length:=h.li.lenI
 have hmn:W.em.n=g.em.length:=h.em.lenI
 have hq:Af Tryz.prog N4 #[.agg #[W.r.v,.int .i64 g.w],.slice none 0 0] σ fun v σ'=>v=.int .i64 (Fe g.w g.B [])/\σ'=σ:=by
  have h1:=Oa (w:=g.w) h.ev hB (Nat.zero_le _) (fun k hk=>absurd hk (Nat.not_lt_zero _))
  exact h1
 refine clI DA hq (Bu (fun e=>Ah ⟨?_,rfl⟩) (fun e1=>?_))
 ·unfold Gal.chk;rw [if_neg e]
 refine Be Gx (WX h.k hc) ?_
 rintro v τ ⟨rfl,rfl⟩
 refine ⟨_,_,rfl,Bu (fun e=>Ah ⟨?_,rfl⟩) (fun e2=>clI Gu (W9 h.s) (Bu (fun e=>Ah ⟨?_,rfl⟩) (fun e3=>?_)))⟩
 ·unfold Gal.chk;rw [if_pos e1,if_neg e]
 ·unfold Gal.chk;rw [if_pos e1,if_pos e2,if_neg e]
 have ec:g.chk=if g.ok1&&g.ok2 then 0 else 120:=by unfold Gal.chk;rw [if_pos e1,if_pos e2,if_pos e3]
 have hB:g.B.length<=8:=(Cp e1).m
 rw [ec]
 refine Ad fun J13 h13=>Ad fun J46 h46=>?_
 have k46:∀ t,t=!g.ok1->J46 t τ:=by
  rintro t rfl
  rw [h46]
  intro _
  refine Bp (fun e=>Ah ⟨?_,rfl⟩) (fun e4=>?_)
  ·rw [e];rfl
  have e4':=e4
  unfold Gal.ok1 at e4'
  simp only [Bool.and_eq_true,decide_eq_true_eq] at e4'
  rw [h13]
  intro _
  refine Ad fun J16 h16=>?_
  refine ⟨fun m i τ'=>∃ k:Nat,m=g.B.length-k/\i=k/\k<=g.B.length/\τ'=τ/\∀ j,j<k->Inn (gt g.li (j:Nat)) 0 200=true/\Inn (gt g.em (j:Nat)) 0 100=true,⟨_,0,rfl,rfl,by omega,rfl,fun j hj=>by omega⟩,?_⟩
  rintro m i τ' ⟨k,rfl,rfl,hk,rfl,hj⟩ _
  refine AA (fun hlt=>?_) (fun hlt=>?_)
  ·have hkl:k<g.B.length:=by omega
   refine Ad fun J24 h24=>Ad fun J30 h30=>?_
   have k30:∀ t,t=!(Inn (gt g.li (k:Nat)) 0 200&&Inn (gt g.em (k:Nat)) 0 100)->J30 t τ':=by
    rintro t rfl
    rw [h30]
    intro _
    refine Bp (fun e=>Ah ⟨?_,rfl⟩) (fun e=>?_)
    ·have:g.ok2=false:=by
      unfold Gal.ok2
      cases e5:Inn (gt g.li (k:Nat)) 0 200 with
      | false=>
       rw [Cd (by omega)] at e5
       have:g.li.all (Inn · 0 200)=false:=Xe (by omega) e5
       rw [this];rfl
      | true=>
       rw [e5,Bool.true_and,Cd (by omega)] at e
       have:g.em.all (Inn · 0 100)=false:=Xe (by omega) e
       rw [this,Bool.and_false]
     rw [this,Bool.and_false];rfl
    ·rw [h24]
     intro _
     refine AT (by omega) (A0 _ (by omega) ⟨k+1,rfl,by omega,by omega,rfl,fun j h1=>?_⟩)
     rcases Nat.lt_or_ge j k with h2 | h2
     ·exact hj j h2
     ·obtain rfl:j=k:=by omega
      simpa using e
   refine Cx h.li (by omega) (by omega) (Ab6 (Bp (fun e=>k30 _ ?_) (fun e=>Cx h.em (by omega) (by omega) (Ab6 (k30 _ ?_)))))
   ·rw [e];rfl
   ·rw [e,Bool.true_and]
  ·rw [h16]
   intro _
   refine Ah ⟨?_,rfl⟩
   have:g.ok2=true:=by
    unfold Gal.ok2
    rw [Bool.and_eq_true]
    refine ⟨Wq fun j hj2=>?_,Wq fun j hj2=>?_⟩
    ·have:=(hj j (by omega)).1
     rwa [Cd hj2] at this
    ·have:=(hj j (by omega)).2
     rwa [Cd hj2] at this
   rw [e4,this];rfl
 clear h46 h13
 refine Bu (fun e=>k46 _ ?_) (fun a1=>Bu (fun e=>k46 _ ?_) (fun a2=>Bu (fun e=>k46 _ ?_) (fun a3=>Bu (fun e=>k46 _ ?_) (fun a4=>Ab6 (k46 _ ?_)))))
 ·have:¬ g.b.I.length=g.B.length:=by omega
  simp [Gal.ok1,this]
 ·have:¬ g.S.L.length=g.B.length:=by omega
  simp [Gal.ok1,this]
 ·have:¬ g.li.length=g.B.length:=by omega
  simp [Gal.ok1,this]
 ·have:¬ g.em.length=g.B.length:=by omega
  simp [Gal.ok1,this]
 ·have b1:g.b.I.length=g.B.length:=by omega
  have b2:g.S.L.length=g.B.length:=by omega
  have b3:g.li.length=g.B.length:=by omega
  have b4:g.em.length=g.B.length:=by omega
  simp [Gal.ok1,b1,b2,b3,b4]
theorem Acz (h:GaR σ W g) (hg:Hk g) (hc:W.e.n<=W.e.c):Af Tryz.prog We #[W.v g] σ (Aam 4 [.bool] σ (g.flg g.open)):=by
 refine SK _ _ _ _ _ _ _ _ _ _ _ _ _ _ _ _ _ _ _ _ _ _ _ _ _ _ _ _ _ _ _ _ _ _ ?_
 unfold KJ
 have hn8:=hg.n
 have hrn:=h.rn
 refine ⟨by omega,by omega,by omega,?_⟩
 refine Be KF (W6 (day:=g.day) h.k hc) ?_
 rintro v σ2 ⟨A,n,c,rfl,ho⟩
 have hs2:=ho.sub
 have hrd:=ho.rd
 have hn:n=g.rel.length:=ho.len
 have hrd:RdS [.int .i64] σ2 A n g.rel:=hrd
 have hrl:=hg.rel_len
 have hS:=Sup.ok_spec hg.s
 have hnl:=hS.nl
 clear ho
 refine ⟨_,_,_,_,rfl,Ad fun J7 h7=>?_⟩
 refine ⟨fun q m i xs τ=>∃ k:Nat,q=g.rel.length-k/\m=((g.opS k).1:Nat)/\i=k/\k<=g.rel.length/\τ=σ2/\xs=g.flg (g.opS k).2,⟨_,0,rfl,rfl,rfl,by omega,rfl,?_⟩,?_⟩
 ·rw [hrn]
  apply List.ext_getElem
  ·simp [Gal.flg]
  ·intro i h1 h2
   simp [Gal.flg,Gal.opS]
 rintro q m i xs τ ⟨k,rfl,rfl,rfl,hk,rfl,rfl⟩ _
 refine AA (fun hlt=>?_) (fun hlt=>?_)
 ·have hkl:k<g.rel.length:=by omega
  have hr:=hg.rel_in (List.getElem_mem hkl)
  have hsucc:=Gal.opS_succ hkl
  refine Ad fun J18 h18=>Cx hrd (by omega) (by omega) ?_
  rw [Cd hkl]
  have k18:J18 ((g.opS (k+1)).1:Nat) (g.flg (g.opS (k+1)).2) τ:=by
   rw [h18]
   intro _
   exact AT (by omega) (A0 _ (by omega) ⟨k+1,rfl,rfl,by omega,by omega,rfl,rfl⟩)
  clear h18
  rw [hsucc] at k18
  have hlt1:=hg.set_lt k hk
  generalize g.rel[k]=r at *
  generalize g.opS k=s at *
  obtain ⟨j,rfl⟩:∃ j:Nat,r=j:=⟨r.toNat,by omega⟩
  have hj:j<=30:=by omega
  have e1:=S8 (n:=j) (by omega)
  have e2:=Q8 hj
  have e0:0<2^j:=Nat.pow_pos (by omega)
  have h62:s.1<2^62:=Nat.lt_of_lt_of_le hlt1 (Nat.pow_le_pow_right (by omega) (by omega))
  have hj62:2^j<2^62:=Nat.pow_lt_pow_right (by omega) (by omega)
  have e3:=Abh h62 hj62
  have hlt2:Wx s.1 j<2^g.S.L.length:=VR hlt1 (by rw [hg.nL];omega)
  have hp20:=Q8 (n:=g.S.L.length) (by omega)
  have e4:((s.1 ||| 2^j:Nat):Int)=((Wx s.1 j:Nat):Int):=rfl
  have hfl:(g.flg s.2).length=g.B.length:=Gal.flg_len
  refine VM (by omega) ⟨by omega,?_⟩
  rw [e1]
  refine AT (by omega) ?_
  rw [e3,e4]
  refine AT (by omega) ?_
  refine Be OP (Acu (h.sub hs2).s) ?_
  rintro v τ' ⟨rfl,rfl⟩
  unfold opF at k18
  rw [Int.toNat_natCast] at k18
  refine ⟨_,_,_,rfl,BI (fun e=>VM (by omega) ⟨by omega,?_⟩) (fun e=>?_)⟩
  ·rw [if_pos e] at k18
   rw [e1]
   refine AT (by omega) ?_
   rw [e3,e4]
   refine AT (by omega) ⟨by omega,by omega,?_⟩
   refine ⟨by rw [hfl];omega,?_⟩
   show J18 _ ((g.flg s.2).set j true) _
   rw [Gal.flg_set]
   exact k18
  ·rw [if_neg (by rw [e];decide)] at k18
   exact k18
 ·obtain rfl:k=g.rel.length:=by omega
  rw [h7]
  intro _ A' n' c' σ3 ho
  obtain ⟨σ4,h6,h7'⟩:=Ar.own.less (R:=fun a c''=>Ai 4 [.bool] a A' n' c' (g.flg (g.opS g.rel.length).2) c'') ho hs2
  exact BM h7' ⟨_,_,_,rfl,h6⟩
theorem Ac1 {A:Option Addr} {n:Nat} {xs:List Bool} {i:Nat} {K:Bool->Prop} (h:RdS [.bool] σ A n xs) (hn:i<xs.length) (hk:K xs[i]):ix A n (i:Nat) 1 fun b a=>ldB σ b a K:=
 Aeq h (by omega) (by simpa using hn) (by simpa using hk)
end
end Go.Proofs.YthhadkggldcolaaGreat
