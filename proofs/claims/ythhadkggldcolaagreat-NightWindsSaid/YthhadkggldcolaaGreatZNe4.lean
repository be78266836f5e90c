/- Trimmed by wip/trim.py to what this claim rests on. -/
import Derived.Test.YthhadkggldcolaaGreatZNb1
import Derived.Test.YthhadkggldcolaaGreatZR3
namespace Go.Proofs.YthhadkggldcolaaGreat
open Go.RowKit
section
variable {σ:Hp} {w:SuW} {S:Sup}
theorem WW {n lo hi:Int}:Ae Tryz.prog KO #[.int .i64 n,.int .i64 lo,.int .i64 hi] σ fun v σ'=>v=.bool (Inn n lo hi)/\σ'=σ:=by
 refine Og _ _ _ _ _ ?_
 unfold GF
 refine AH (fun h=>Ah ⟨?_,rfl⟩) (fun h=>Ah ⟨?_,rfl⟩)
 ·simp [Inn,h]
 ·simp [Inn,h]
theorem Ld {n lo hi:Int} {K:Bool->Hp->Prop} (h:K (Inn n lo hi) σ):cl Tryz.prog (.func (.func KO) #[] #[]) #[.int .i64 n,.int .i64 lo,.int .i64 hi] σ fun v σ'=>∃ t:Bool,(v=.bool t/\K t σ'):=clB KV WW h
set_option maxRecDepth 100000 in
theorem Yn (h:SuR σ w S):Ae Tryz.prog Rd #[w.v S] σ fun v σ'=>v=.int .i64 S.e/\σ'=σ:=by
 refine OY _ _ _ _ _ _ _ _ _ _ _ ?_
 unfold Hn
 have hbn:=h.bn
 have hln:=h.ln
 have hbni:((w.b.n:Nat):Int)=S.B.length:=by rw [hbn]
 refine Ac fun J3 h3=>?_
 have k3:S.ok1=true->J3 σ:=by
  intro h1
  have h1':=h1
  unfold Sup.ok1 at h1'
  simp only [Bool.and_eq_true,decide_eq_true_eq] at h1'
  rw [h3]
  intro _
  refine Ac fun J6 h6=>?_
  have k6:S.okB=true->J6 σ:=by
   intro h2
   rw [h6]
   intro _
   refine Ac fun J9 h9=>?_
   have k9:S.okL=true->J9 σ:=by
    intro h4
    rw [h9]
    intro _
    refine Ah ⟨?_,rfl⟩
    unfold Sup.e Sup.ok
    rw [h1,h2,h4];rfl
   clear h9
   refine ⟨fun m i τ=>∃ k:Nat,m=S.L.length-k/\i=k/\k<=S.L.length/\τ=σ/\∀ j,j<k->JC S.B.length (qA S.L (j:Nat))=true,⟨_,0,rfl,rfl,by omega,rfl,fun j hj=>by omega⟩,?_⟩
   rintro m i τ ⟨k,rfl,rfl,hk,rfl,hj⟩ _
   refine AH (fun hlt=>?_) (fun hlt=>?_)
   ·have hkl:k<S.L.length:=by omega
    refine Ac fun J17 h17=>Xz h.l (by omega) (by omega) fun r hr=>?_
    refine Ac fun J29 h29=>?_
    have k29:∀ t,t=!JC S.B.length r->J29 t τ:=by
     rintro t rfl
     rw [h29]
     intro _
     refine Ba (fun e=>Ah ⟨?_,rfl⟩) (fun e=>?_)
     ·have:S.okL=false:=R6 hkl (by rw [hr];exact e)
      unfold Sup.e Sup.ok
      rw [this,Bool.and_false];rfl
     ·rw [h17]
      intro _
      refine AP (by omega) (Bb _ (by omega) ⟨k+1,rfl,by omega,by omega,rfl,fun j h1=>?_⟩)
      rcases Nat.lt_or_ge j k with h2 | h2
      ·exact hj j h2
      ·obtain rfl:j=k:=by omega
       rw [hr];exact e
    clear h29 h17
    refine AP (by omega) ?_
    rw [hbni]
    refine Ld (Ba (fun e=>k29 _ ?_) (fun e1=>Ld (Ba (fun e=>k29 _ ?_) (fun e2=>Ld (Ba (fun e=>k29 _ ?_) (fun e3=>Ld (k29 _ ?_)))))))
    ·unfold JC;rw [e];rfl
    ·unfold JC;rw [e1,e];rfl
    ·unfold JC;rw [e1,e2,e];rfl
    ·exact (R8 e1 e2 e3).symm
   ·exact k9 (WG fun j h=>hj j (by omega))
  clear h6
  refine ⟨fun m i τ=>∃ k:Nat,m=S.B.length-k/\i=k/\k<=S.B.length/\τ=σ/\∀ j,j<k->JG j (qA S.B (j:Nat))=true,⟨_,0,rfl,rfl,by omega,rfl,fun j hj=>by omega⟩,?_⟩
  rintro m i τ ⟨k,rfl,rfl,hk,rfl,hj⟩ _
  refine AH (fun hlt=>?_) (fun hlt=>?_)
  ·have hkl:k<S.B.length:=by omega
   refine Ac fun J17 h17=>Xz h.b (by omega) (by omega) fun r hr=>?_
   refine Ac fun J29 h29=>?_
   have k29:∀ t,t=!JG k r->J29 t τ:=by
    rintro t rfl
    rw [h29]
    intro _
    refine Ba (fun e=>Ah ⟨?_,rfl⟩) (fun e=>?_)
    ·have:S.okB=false:=R6 hkl (by rw [hr];exact e)
     unfold Sup.e Sup.ok
     rw [this,Bool.and_false];rfl
    ·rw [h17]
     intro _
     refine AP (by omega) (Bb _ (by omega) ⟨k+1,rfl,by omega,by omega,rfl,fun j h1=>?_⟩)
     rcases Nat.lt_or_ge j k with h2 | h2
     ·exact hj j h2
     ·obtain rfl:j=k:=by omega
      rw [hr];exact e
   clear h29 h17
   refine AP (by omega) ?_
   refine Ld (Ba (fun e=>k29 _ ?_) (fun e1=>Ld (Ba (fun e=>k29 _ ?_) (fun e2=>Ld (Ba (fun e=>k29 _ ?_) (fun e3=>Ld (k29 _ ?_)))))))
   ·unfold JG;rw [e];rfl
   ·unfold JG;rw [e1,e];rfl
   ·unfold JG;rw [e1,e2,e];rfl
   ·exact (R8 e1 e2 e3).symm
  ·exact k6 (WG fun j h=>hj j (by omega))
 clear h3
 refine Ac fun J80 h80=>?_
 have k80:∀ t,t=!S.ok1->J80 t σ:=by
  rintro t rfl
  rw [h80]
  intro _
  refine Ba (fun e=>Ah ⟨?_,rfl⟩) (fun e=>k3 e)
  unfold Sup.e Sup.ok
  rw [e];rfl
 clear h80 k3
 refine AH (fun e=>k80 _ ?_) (fun e1=>AH (fun e=>k80 _ ?_) (fun e2=>Ld (Ba (fun e=>k80 _ ?_) (fun e3=>Ld (Ba (fun e=>k80 _ ?_) (fun e4=>Ld (k80 _ ?_)))))))
 ·have:¬ S.B.length<=10:=by omega
  simp [Sup.ok1,this]
 ·have:¬ S.L.length<=16:=by omega
  simp [Sup.ok1,this]
 ·simp [Sup.ok1,e]
 ·simp [Sup.ok1,e]
 ·have a:S.B.length<=10:=by omega
  have b:S.L.length<=16:=by omega
  simp [Sup.ok1,a,b,e3,e4]
end
end Go.Proofs.YthhadkggldcolaaGreat
