/- What this claim rests on. -/
import Derived.Test.YtoelhdjloaknbaaGreatUNf1
import Derived.Test.YtoelhdjloaknbaaGreatUNe1
import Derived.Test.YtoelhdjloaknbaaGreatUB18
namespace Go.Proofs.YtoelhdjloaknbaaGreat
open Go.RowKit Go.Proofs.Tryz
section
variable {σ:Hp} {W:GaW} {g:Gal} {l:SL} {ws:Nat->SL} {G:List Grp}
end
theorem XC {G:List Grp} {hs:List Int} {M:Int} (h0:0<=M):∀ k,(∀ i:Nat,i<k->gst G hs (gd G i).came G.length<=M)->mst G hs k<=M
 | 0,_=>by unfold mst;omega
 | k+1,h=>by
  have ih:=XC h0 k fun i hi=>h i (by omega)
  have:=h k (by omega)
  unfold mst
  split<;>omega
section
variable {σ:Hp} {W:GaW} {g:Gal} {l:SL} {ws:Nat->SL} {G:List Grp}
theorem WF (h:GaR σ W g) (he:EvR σ W.r g.B l ws G):Af prog 18 #[W.v g,l.v] σ fun v σ'=>v=.bool (Yi g||UQ g.B G)/\σ'=σ:=by
 apply Mh
 unfold FP
 refine clB (aV 10) (AaM h) (C4 (fun e=>Al ⟨?_,rfl⟩) (fun e=>clB (aV 45) (Abe (w:=g.w) he) (Al ⟨?_,rfl⟩)))
 ·rw [e];rfl
 ·rw [e];rfl
theorem QQ (he:EvR σ W.r g.B l ws G) (hG:G.length<=4294967296) (hW:∀ k,(h:k<G.length)->G[k].wants.length<=4294967296):Af prog 20 #[l.v] σ fun v σ'=>∃ (l':SL) (ws':Nat->SL),v=l'.v/\Hp.Sub σ σ'/\∀ {r:SL} {B:List BthG},RdS sB σ' r.A r.n (B.map Kv)->EvR σ' r B l' ws' G:=by
 apply Nh
 unfold Gz
 refine AW (aV 51) (Sr he hG hW) ?_
 rintro v σ2 ⟨l',ws',rfl,hs,h1,h2⟩
 exact ⟨_,_,_,rfl,Al ⟨l',ws',rfl,hs,fun hr=>⟨hr,h1,h2⟩⟩⟩
end
end Go.Proofs.YtoelhdjloaknbaaGreat
