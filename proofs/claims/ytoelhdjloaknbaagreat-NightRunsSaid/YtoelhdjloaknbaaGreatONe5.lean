/- Trimmed by wip/trim.py to what this claim rests on. -/
import Derived.Test.YtoelhdjloaknbaaGreatONc1
import Derived.Test.YtoelhdjloaknbaaGreatONe1
import Derived.Test.YtoelhdjloaknbaaGreatONe4
import Derived.Test.YtoelhdjloaknbaaGreatOR4
namespace Go.Proofs.YtoelhdjloaknbaaGreat
set_option maxRecDepth 100000
open Go.RowKit
def Gal.flg (g:Gal) (l:List Int):List Bool:=(List.range g.B.length).map fun i:Nat=>decide ((i:Int)∈l)
theorem Gal.flg_len {g:Gal} {l:List Int}:(g.flg l).length=g.B.length:=by simp [Gal.flg]
theorem Gal.flg_set {g:Gal} {l:List Int} {r:Nat}:(g.flg l).set r true=g.flg (l++[(r:Int)]):=by
 apply List.ext_getElem
 ·simp [Gal.flg]
 ·intro i h1 h2
  have hi:i<g.B.length:=by simpa [Gal.flg] using h2
  rw [List.getElem_set]
  unfold Gal.flg
  simp only [List.getElem_map,List.getElem_range,List.mem_append,List.mem_singleton]
  by_cases e:r=i
  ·rw [if_pos e]
   subst e
   simp
  ·rw [if_neg e]
   have:¬ ((i:Nat):Int)=(r:Nat):=by omega
   simp [this]
theorem Xv {S:Sup}:∀ (l:List Int) (s:Nat×List Int),∃ l',l'.Sublist l/\(l.foldl (opF S) s).2=s.2++l'
 | [],s=>⟨[],List.Sublist.refl _,by simp⟩
 | x::l,s=>by
  rw [List.foldl_cons]
  obtain ⟨l',h1,h2⟩:=Xv l (opF S s x)
  unfold opF at h2 ⊢
  split at h2
  ·rename_i e
   rw [if_pos e]
   exact ⟨x::l',h1.cons_cons x,by rw [h2];simp⟩
  ·rename_i e
   rw [if_neg e]
   exact ⟨l',h1.cons x,h2⟩
theorem Gal.open_sub (g:Gal):g.open.Sublist g.rel:=by
 obtain ⟨l',h1,h2⟩:=Xv (S:=g.S) (g.rel.take g.rel.length) (0,[])
 rw [List.take_length] at h1
 unfold Gal.open Gal.opS
 rw [h2]
 exact h1
theorem Es.open_in {g:Gal} (h:Es g) {r:Int} (hr:r∈g.open):0<=r/\r<g.B.length:=h.rel_in (g.open_sub.subset hr)
theorem Es.open_len {g:Gal} (h:Es g):g.open.length<=g.B.length:=Nat.le_trans g.open_sub.length_le h.rel_len
section
variable {σ:Hp} {W:GaW} {g:Gal}
theorem AbF {n lo hi:Int}:Ad Tryz.prog Ow #[.int .i64 n,.int .i64 lo,.int .i64 hi] σ fun v σ'=>v=.bool (Inn n lo hi)/\σ'=σ:=by
 refine QN _ _ _ _ _ ?_
 unfold I4
 refine AA (fun h=>Ag ⟨?_,rfl⟩) (fun h=>Ag ⟨?_,rfl⟩)
 ·simp [Inn,h]
 ·simp [Inn,h]
theorem WV {n lo hi:Int} {K:Bool->Hp->Prop} (h:K (Inn n lo hi) σ):cl Tryz.prog (.func (.func Ow) #[] #[]) #[.int .i64 n,.int .i64 lo,.int .i64 hi] σ fun v σ'=>∃ t:Bool,(v=.bool t/\K t σ'):=clB M0 AbF h
theorem YO (h:GaR σ W g) (hB:g.B.length<=4294967296) (hc:W.e.n<=W.e.c):Ad Tryz.prog SR #[W.v g] σ fun v σ'=>v=.int .i64 g.chk/\σ'=σ:=by
 refine Pp _ _ _ _ _ _ _ _ _ _ _ _ _ _ _ _ _ _ _ _ _ _ _ _ _ _ _ _ _ _ _ _ _ _ ?_
 unfold Ia
 have hrn:=h.rn
 have hIn:=h.k.b.in
 have hLn:=h.s.ln
 have hln:W.li.n=g.li.length:=h.li.lenI
 have hmn:W.em.n=g.em.length:=h.em.lenI
 have hq:Ad Tryz.prog MX #[.agg #[W.r.v,.int .i64 g.w],.slice none 0 0] σ fun v σ'=>v=.int .i64 (Ii g.w g.B [])/\σ'=σ:=by
  have h1:=WO (w:=g.w) h.ev hB (Nat.zero_le _) (fun k hk=>absurd hk (Nat.not_lt_zero _))
  exact h1
 refine clI Mc hq (Bi (fun e=>Ag ⟨?_,rfl⟩) (fun e1=>?_))
 ·unfold Gal.chk;rw [if_neg e]
 refine Bg F3 (UN h.k hc) ?_
 rintro v τ ⟨rfl,rfl⟩
 refine ⟨_,_,rfl,Bi (fun e=>Ag ⟨?_,rfl⟩) (fun e2=>clI F2 (U6 h.s) (Bi (fun e=>Ag ⟨?_,rfl⟩) (fun e3=>?_)))⟩
 ·unfold Gal.chk;rw [if_pos e1,if_neg e]
 ·unfold Gal.chk;rw [if_pos e1,if_pos e2,if_neg e]
 have ec:g.chk=if g.ok1&&g.ok2 then 0 else 120:=by unfold Gal.chk;rw [if_pos e1,if_pos e2,if_pos e3]
 have hB:g.B.length<=8:=(IM e1).m
 rw [ec]
 refine Ab fun J13 h13=>Ab fun J46 h46=>?_
 have k46:∀ t,t=!g.ok1->J46 t τ:=by
  rintro t rfl
  rw [h46]
  intro _
  refine Bd (fun e=>Ag ⟨?_,rfl⟩) (fun e4=>?_)
  ·rw [e];rfl
  have e4':=e4
  unfold Gal.ok1 at e4'
  simp only [Bool.and_eq_true,decide_eq_true_eq] at e4'
  rw [h13]
  intro _
  refine Ab fun J16 h16=>?_
  refine ⟨fun m i τ'=>∃ k:Nat,m=g.B.length-k/\i=k/\k<=g.B.length/\τ'=τ/\∀ j,j<k->Inn (gt g.li (j:Nat)) 0 200=true/\Inn (gt g.em (j:Nat)) 0 100=true,⟨_,0,rfl,rfl,by omega,rfl,fun j hj=>by omega⟩,?_⟩
  rintro m i τ' ⟨k,rfl,rfl,hk,rfl,hj⟩ _
  refine AA (fun hlt=>?_) (fun hlt=>?_)
  ·have hkl:k<g.B.length:=by omega
   refine Ab fun J24 h24=>Ab fun J30 h30=>?_
   have k30:∀ t,t=!(Inn (gt g.li (k:Nat)) 0 200&&Inn (gt g.em (k:Nat)) 0 100)->J30 t τ':=by
    rintro t rfl
    rw [h30]
    intro _
    refine Bd (fun e=>Ag ⟨?_,rfl⟩) (fun e=>?_)
    ·have:g.ok2=false:=by
      unfold Gal.ok2
      cases e5:Inn (gt g.li (k:Nat)) 0 200 with
      | false=>
       rw [B9 (by omega)] at e5
       have:g.li.all (Inn · 0 200)=false:=U2 (by omega) e5
       rw [this];rfl
      | true=>
       rw [e5,Bool.true_and,B9 (by omega)] at e
       have:g.em.all (Inn · 0 100)=false:=U2 (by omega) e
       rw [this,Bool.and_false]
     rw [this,Bool.and_false];rfl
    ·rw [h24]
     intro _
     refine AL (by omega) (A0 _ (by omega) ⟨k+1,rfl,by omega,by omega,rfl,fun j h1=>?_⟩)
     rcases Nat.lt_or_ge j k with h2 | h2
     ·exact hj j h2
     ·obtain rfl:j=k:=by omega
      simpa using e
   refine DA h.li (by omega) (by omega) (WV (Bd (fun e=>k30 _ ?_) (fun e=>DA h.em (by omega) (by omega) (WV (k30 _ ?_)))))
   ·rw [e];rfl
   ·rw [e,Bool.true_and]
  ·rw [h16]
   intro _
   refine Ag ⟨?_,rfl⟩
   have:g.ok2=true:=by
    unfold Gal.ok2
    rw [Bool.and_eq_true]
    refine ⟨Uw fun j hj2=>?_,Uw fun j hj2=>?_⟩
    ·have:=(hj j (by omega)).1
     rwa [B9 hj2] at this
    ·have:=(hj j (by omega)).2
     rwa [B9 hj2] at this
   rw [e4,this];rfl
 clear h46 h13
 refine Bi (fun e=>k46 _ ?_) (fun a1=>Bi (fun e=>k46 _ ?_) (fun a2=>Bi (fun e=>k46 _ ?_) (fun a3=>Bi (fun e=>k46 _ ?_) (fun a4=>WV (k46 _ ?_)))))
 ·have:¬ g.b.I.length=g.B.length:=by omega
  simp [Gal.ok1,this]
 ·have:¬ g.S.L.length=g.B.length:=by omega
  simp [Gal.ok1,this]
 ·have:¬ g.li.length=g.B.length:=by omega
  simp [Gal.ok1,this]
 ·have:¬ g.em.length=g.B.length:=by omega
  simp [Gal.ok1,this]
 ·have b1:g.b.I.length=g.B.length:=by omega
  have b2:g.S.L.length=g.B.length:=by omega
  have b3:g.li.length=g.B.length:=by omega
  have b4:g.em.length=g.B.length:=by omega
  simp [Gal.ok1,b1,b2,b3,b4]
theorem Abi (h:GaR σ W g) (hg:Es g) (hc:W.e.n<=W.e.c):Ad Tryz.prog Uh #[W.v g] σ (VX 4 [.bool] σ (g.flg g.open)):=by
 refine Q2 _ _ _ _ _ _ _ _ _ _ _ _ _ _ _ _ _ _ _ _ _ _ _ _ _ _ _ _ _ _ _ _ _ _ ?_
 unfold Jg
 have hn8:=hg.n
 have hrn:=h.rn
 refine ⟨by omega,by omega,by omega,?_⟩
 refine Bg J0 (Vn (day:=g.day) h.k hc) ?_
 rintro v σ2 ⟨A,n,c,rfl,ho⟩
 have hs2:=ho.sub
 have hrd:=ho.rd
 have hn:n=g.rel.length:=ho.len
 have hrd:RdS [.int .i64] σ2 A n g.rel:=hrd
 have hrl:=hg.rel_len
 have hS:=Sup.ok_spec hg.s
 have hnl:=hS.nl
 clear ho
 refine ⟨_,_,_,_,rfl,Ab fun J7 h7=>?_⟩
 refine ⟨fun q m i xs τ=>∃ k:Nat,q=g.rel.length-k/\m=((g.opS k).1:Nat)/\i=k/\k<=g.rel.length/\τ=σ2/\xs=g.flg (g.opS k).2,⟨_,0,rfl,rfl,rfl,by omega,rfl,?_⟩,?_⟩
 ·rw [hrn]
  apply List.ext_getElem
  ·simp [Gal.flg]
  ·intro i h1 h2
   simp [Gal.flg,Gal.opS]
 rintro q m i xs τ ⟨k,rfl,rfl,rfl,hk,rfl,rfl⟩ _
 refine AA (fun hlt=>?_) (fun hlt=>?_)
 ·have hkl:k<g.rel.length:=by omega
  have hr:=hg.rel_in (List.getElem_mem hkl)
  have hsucc:=Gal.opS_succ hkl
  refine Ab fun J18 h18=>DA hrd (by omega) (by omega) ?_
  rw [B9 hkl]
  have k18:J18 ((g.opS (k+1)).1:Nat) (g.flg (g.opS (k+1)).2) τ:=by
   rw [h18]
   intro _
   exact AL (by omega) (A0 _ (by omega) ⟨k+1,rfl,rfl,by omega,by omega,rfl,rfl⟩)
  clear h18
  rw [hsucc] at k18
  have hlt1:=hg.set_lt k hk
  generalize g.rel[k]=r at *
  generalize g.opS k=s at *
  obtain ⟨j,rfl⟩:∃ j:Nat,r=j:=⟨r.toNat,by omega⟩
  have hj:j<=30:=by omega
  have e1:=RA (n:=j) (by omega)
  have e2:=Pk hj
  have e0:0<2^j:=Nat.pow_pos (by omega)
  have h62:s.1<2^62:=Nat.lt_of_lt_of_le hlt1 (Nat.pow_le_pow_right (by omega) (by omega))
  have hj62:2^j<2^62:=Nat.pow_lt_pow_right (by omega) (by omega)
  have e3:=Z7 h62 hj62
  have hlt2:VI s.1 j<2^g.S.L.length:=Uj hlt1 (by rw [hg.nL];omega)
  have hp20:=Pk (n:=g.S.L.length) (by omega)
  have e4:((s.1 ||| 2^j:Nat):Int)=((VI s.1 j:Nat):Int):=rfl
  have hfl:(g.flg s.2).length=g.B.length:=Gal.flg_len
  refine Uv (by omega) ⟨by omega,?_⟩
  rw [e1]
  refine AL (by omega) ?_
  rw [e3,e4]
  refine AL (by omega) ?_
  refine Bg Ng (AaV (h.sub hs2).s) ?_
  rintro v τ' ⟨rfl,rfl⟩
  unfold opF at k18
  rw [Int.toNat_natCast] at k18
  refine ⟨_,_,_,rfl,B0 (fun e=>Uv (by omega) ⟨by omega,?_⟩) (fun e=>?_)⟩
  ·rw [if_pos e] at k18
   rw [e1]
   refine AL (by omega) ?_
   rw [e3,e4]
   refine AL (by omega) ⟨by omega,by omega,?_⟩
   refine ⟨by rw [hfl];omega,?_⟩
   show J18 _ ((g.flg s.2).set j true) _
   rw [Gal.flg_set]
   exact k18
  ·rw [if_neg (by rw [e];decide)] at k18
   exact k18
 ·obtain rfl:k=g.rel.length:=by omega
  rw [h7]
  intro _ A' n' c' σ3 ho
  obtain ⟨σ4,h6,h7'⟩:=AD.own.less (R:=fun a c''=>Ak 4 [.bool] a A' n' c' (g.flg (g.opS g.rel.length).2) c'') ho hs2
  exact Bx h7' ⟨_,_,_,rfl,h6⟩
theorem Abl {A:Option Addr} {n:Nat} {xs:List Bool} {i:Nat} {K:Bool->Prop} (h:RdS [.bool] σ A n xs) (hn:i<xs.length) (hk:K xs[i]):ix A n (i:Nat) 1 fun b a=>ldB σ b a K:=
 Aap h (by omega) (by simpa using hn) (by simpa using hk)
end
end Go.Proofs.YtoelhdjloaknbaaGreat
