/- Trimmed by wip/trim.py to what this claim rests on. -/
import Derived.Test.YthhadkggldcolaaGreatZNc1
import Derived.Test.YthhadkggldcolaaGreatZNe1
import Derived.Test.YthhadkggldcolaaGreatZNe4
import Derived.Test.YthhadkggldcolaaGreatZR4
namespace Go.Proofs.YthhadkggldcolaaGreat
open Go.RowKit
theorem Vm {S:Sup}:∀ (l:List Int) (s:Nat×List Int),∃ l',l'.Sublist l/\(l.foldl (opF S) s).2=s.2++l'
 | [],s=>⟨[],List.Sublist.refl _,by simp⟩
 | x::l,s=>by
  rw [List.foldl_cons]
  obtain ⟨l',h1,h2⟩:=Vm l (opF S s x)
  unfold opF at h2 ⊢
  split at h2
  ·rename_i e
   rw [if_pos e]
   exact ⟨x::l',h1.cons_cons x,by rw [h2];simp⟩
  ·rename_i e
   rw [if_neg e]
   exact ⟨l',h1.cons x,h2⟩
theorem Gal.open_sub (g:Gal):g.open.Sublist g.rel:=by
 obtain ⟨l',h1,h2⟩:=Vm (S:=g.S) (g.rel.take g.rel.length) (0,[])
 rw [List.take_length] at h1
 unfold Gal.open Gal.opS
 rw [h2]
 exact h1
theorem Fc.open_in {g:Gal} (h:Fc g) {r:Int} (hr:r∈g.open):0<=r/\r<g.B.length:=h.rel_in (g.open_sub.subset hr)
theorem Fc.open_len {g:Gal} (h:Fc g):g.open.length<=g.B.length:=Nat.le_trans g.open_sub.length_le h.rel_len
section
variable {σ:Hp} {W:GaW} {g:Gal}
theorem Y0 {n lo hi:Int}:Ae Tryz.prog N8 #[.int .i64 n,.int .i64 lo,.int .i64 hi] σ fun v σ'=>v=.bool (Inn n lo hi)/\σ'=σ:=by
 refine P3 _ _ _ _ _ ?_
 unfold Jd
 refine AH (fun h=>Ah ⟨?_,rfl⟩) (fun h=>Ah ⟨?_,rfl⟩)
 ·simp [Inn,h]
 ·simp [Inn,h]
theorem YG {n lo hi:Int} {K:Bool->Hp->Prop} (h:K (Inn n lo hi) σ):cl Tryz.prog (.func (.func N8) #[] #[]) #[.int .i64 n,.int .i64 lo,.int .i64 hi] σ fun v σ'=>∃ t:Bool,(v=.bool t/\K t σ'):=clB M2 Y0 h
set_option maxRecDepth 100000 in
theorem XK (h:GaR σ W g) (hB:g.B.length<=4294967296) (hc:W.e.n<=W.e.c):Ae Tryz.prog Mc #[W.v g] σ fun v σ'=>v=.int .i64 g.chk/\σ'=σ:=by
 refine Oy _ _ _ _ _ _ _ _ _ _ _ _ _ _ _ _ _ _ _ _ _ _ _ _ _ _ _ _ _ _ _ _ _ _ ?_
 unfold HP
 have hrn:=h.rn
 have hIn:=h.k.b.in
 have hLn:=h.s.ln
 have hln:W.li.n=g.li.length:=h.li.lenI
 have hmn:W.em.n=g.em.length:=h.em.lenI
 have hq:Ae Tryz.prog Md #[.agg #[W.r.v,.int .i64 g.w],.slice none 0 0] σ fun v σ'=>v=.int .i64 (HJ g.w g.B [])/\σ'=σ:=by
  have h1:=UB (w:=g.w) h.ev hB (Nat.zero_le _) (fun k hk=>absurd hk (Nat.not_lt_zero _))
  exact h1
 refine clI L4 hq (Bg (fun e=>Ah ⟨?_,rfl⟩) (fun e1=>?_))
 ·unfold Gal.chk;rw [if_neg e]
 refine Bd LF (XG h.k hc) ?_
 rintro v τ ⟨rfl,rfl⟩
 refine ⟨_,_,rfl,Bg (fun e=>Ah ⟨?_,rfl⟩) (fun e2=>clI L5 (Yn h.s) (Bg (fun e=>Ah ⟨?_,rfl⟩) (fun e3=>?_)))⟩
 ·unfold Gal.chk;rw [if_pos e1,if_neg e]
 ·unfold Gal.chk;rw [if_pos e1,if_pos e2,if_neg e]
 have ec:g.chk=if g.ok1&&g.ok2 then 0 else 120:=by unfold Gal.chk;rw [if_pos e1,if_pos e2,if_pos e3]
 have hB:g.B.length<=8:=(Ia e1).m
 rw [ec]
 refine Ac fun J13 h13=>Ac fun J46 h46=>?_
 have k46:∀ t,t=!g.ok1->J46 t τ:=by
  rintro t rfl
  rw [h46]
  intro _
  refine Ba (fun e=>Ah ⟨?_,rfl⟩) (fun e4=>?_)
  ·rw [e];rfl
  have e4':=e4
  unfold Gal.ok1 at e4'
  simp only [Bool.and_eq_true,decide_eq_true_eq] at e4'
  rw [h13]
  intro _
  refine Ac fun J16 h16=>?_
  refine ⟨fun m i τ'=>∃ k:Nat,m=g.B.length-k/\i=k/\k<=g.B.length/\τ'=τ/\∀ j,j<k->Inn (gt g.li (j:Nat)) 0 200=true/\Inn (gt g.em (j:Nat)) 0 100=true,⟨_,0,rfl,rfl,by omega,rfl,fun j hj=>by omega⟩,?_⟩
  rintro m i τ' ⟨k,rfl,rfl,hk,rfl,hj⟩ _
  refine AH (fun hlt=>?_) (fun hlt=>?_)
  ·have hkl:k<g.B.length:=by omega
   refine Ac fun J24 h24=>Ac fun J30 h30=>?_
   have k30:∀ t,t=!(Inn (gt g.li (k:Nat)) 0 200&&Inn (gt g.em (k:Nat)) 0 100)->J30 t τ':=by
    rintro t rfl
    rw [h30]
    intro _
    refine Ba (fun e=>Ah ⟨?_,rfl⟩) (fun e=>?_)
    ·have:g.ok2=false:=by
      unfold Gal.ok2
      cases e5:Inn (gt g.li (k:Nat)) 0 200 with
      | false=>
       rw [BR (by omega)] at e5
       have:g.li.all (Inn · 0 200)=false:=TK (by omega) e5
       rw [this];rfl
      | true=>
       rw [e5,Bool.true_and,BR (by omega)] at e
       have:g.em.all (Inn · 0 100)=false:=TK (by omega) e
       rw [this,Bool.and_false]
     rw [this,Bool.and_false];rfl
    ·rw [h24]
     intro _
     refine AP (by omega) (Bb _ (by omega) ⟨k+1,rfl,by omega,by omega,rfl,fun j h1=>?_⟩)
     rcases Nat.lt_or_ge j k with h2 | h2
     ·exact hj j h2
     ·obtain rfl:j=k:=by omega
      simpa using e
   refine DC h.li (by omega) (by omega) (YG (Ba (fun e=>k30 _ ?_) (fun e=>DC h.em (by omega) (by omega) (YG (k30 _ ?_)))))
   ·rw [e];rfl
   ·rw [e,Bool.true_and]
  ·rw [h16]
   intro _
   refine Ah ⟨?_,rfl⟩
   have:g.ok2=true:=by
    unfold Gal.ok2
    rw [Bool.and_eq_true]
    refine ⟨Th fun j hj2=>?_,Th fun j hj2=>?_⟩
    ·have:=(hj j (by omega)).1
     rwa [BR hj2] at this
    ·have:=(hj j (by omega)).2
     rwa [BR hj2] at this
   rw [e4,this];rfl
 clear h46 h13
 refine Bg (fun e=>k46 _ ?_) (fun a1=>Bg (fun e=>k46 _ ?_) (fun a2=>Bg (fun e=>k46 _ ?_) (fun a3=>Bg (fun e=>k46 _ ?_) (fun a4=>YG (k46 _ ?_)))))
 ·have:¬ g.b.I.length=g.B.length:=by omega
  simp [Gal.ok1,this]
 ·have:¬ g.S.L.length=g.B.length:=by omega
  simp [Gal.ok1,this]
 ·have:¬ g.li.length=g.B.length:=by omega
  simp [Gal.ok1,this]
 ·have:¬ g.em.length=g.B.length:=by omega
  simp [Gal.ok1,this]
 ·have b1:g.b.I.length=g.B.length:=by omega
  have b2:g.S.L.length=g.B.length:=by omega
  have b3:g.li.length=g.B.length:=by omega
  have b4:g.em.length=g.B.length:=by omega
  simp [Gal.ok1,b1,b2,b3,b4]
end
end Go.Proofs.YthhadkggldcolaaGreat
