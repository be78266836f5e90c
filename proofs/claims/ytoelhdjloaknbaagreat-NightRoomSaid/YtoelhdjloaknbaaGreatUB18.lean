/- What this claim rests on. -/
import Derived.Test.YtoelhdjloaknbaaGreatUB17
namespace Go.Proofs.YtoelhdjloaknbaaGreat
open Go.RowKit Go.Proofs.Tryz
section
variable {w:Int} {B:List BthG} {G:List Grp} {ws:Nat->SL}
theorem Vp (hv:Val w B G):∀ k:Nat,k<=4001->(Pl.run w B G k).Ok (540*k)/\(Pl.run w B G k).now=k/\(Pl.run w B G k).B=B/\(Pl.run w B G k).G=G
 | 0,_=>⟨Pl.Ok.init hv,rfl,rfl,rfl⟩
 | k+1,hk=>by
  obtain ⟨h1,h2,h3,h4⟩:=Vp hv k (by omega)
  obtain ⟨t1,t2⟩:=h1.tick
  refine ⟨?_,rfl,t2.b.trans h3,t2.g.trans h4⟩
  exact (t1.mono (by omega)).later (by omega) (by omega)
end
section
variable {σ:Hp} {w:Int} {r l:SL} {B:List BthG} {ws:Nat->SL} {G:List Grp}
theorem Rl.same {N:Ngt} {S:Pl} {pl:Int->Int} (h:Rl w B G 0 0 N S pl [] (-1)) (hp:∀ g:Int,0<=g->g<G.length->pl g<=4):S.homes=N.parties.map Pty.home/\S.guests.map Gs.tokens=N.parties.map Pty.purse /\
  S.takes=N.rides.map Bth.takes/\S.lines=N.rides.map Bth.line:=by
 have np:=h.np
 have nr:=h.nr
 refine ⟨?_,?_,?_,?_⟩
 ·apply List.ext_getElem
  ·rw [h.lh,List.length_map,np]
  ·intro i h1 h2
   have hi:i<G.length:=by rw [← h.lh];exact h1
   have hg:=h.gr i (by omega) (by omega)
   have:=hp i (by omega) (by omega)
   rcases hg.hm with hm | hm
   ·rw [← B3 h1,hm,List.getElem_map]
    have hi2:i<N.parties.length:=by rw [np];exact hi
    simp [Ngt.pa,List.getD,hi2]
   ·omega
 ·apply List.ext_getElem
  ·rw [List.length_map,h.lg,List.length_map,np]
  ·intro i h1 h2
   have hi:i<G.length:=by rw [List.length_map,h.lg] at h1;exact h1
   have hg:=(h.gr i (by omega) (by omega)).tk
   have hi2:i<N.parties.length:=by rw [np];exact hi
   have hi3:i<S.guests.length:=by rw [h.lg];exact hi
   rw [List.getElem_map,List.getElem_map]
   simp [Ngt.pa,Pl.gu,List.getD,hi2,hi3] at hg
   exact hg
 ·apply List.ext_getElem
  ·rw [h.lt,List.length_map,nr]
  ·intro i h1 h2
   have hi:i<B.length:=by rw [← h.lt];exact h1
   have hg:=(h.rt i (by omega) (by omega)).1
   have hi2:i<N.rides.length:=by rw [nr];exact hi
   rw [← B3 h1,hg,List.getElem_map]
   simp [Ngt.bo,List.getD,hi2]
 ·apply List.ext_getElem
  ·rw [h.ll,List.length_map,nr]
  ·intro i h1 h2
   have hi:i<B.length:=by rw [← h.ll];exact h1
   have hg:=(h.rt i (by omega) (by omega)).2
   have hi2:i<N.rides.length:=by rw [nr];exact hi
   rw [← B3 h1,hg,List.getElem_map]
   simp [Ngt.bo,List.getD,hi2]
theorem Ye (hv:Val w B G):(Pl.run w B G 4001).homes=(Ngt.played w B G).parties.map Pty.home/\(Pl.run w B G 4001).guests.map Gs.tokens=(Ngt.played w B G).parties.map Pty.purse /\
  (Pl.run w B G 4001).takes=(Ngt.played w B G).rides.map Bth.takes/\(Pl.run w B G 4001).lines=(Ngt.played w B G).rides.map Bth.line/\(Pl.run w B G 4001).visits=(Ngt.run w B G 4001).visits:=by
 obtain ⟨pl,h,_,_,hp⟩:=Qk hv 4001 (Nat.le_refl _)
 rw [KC,R0]
 obtain ⟨a,b,c,d⟩:=h.same fun g g0 g1=>(hp g g0 g1).1
 exact ⟨a,b,c,d,h.vs⟩
end
end Go.Proofs.YtoelhdjloaknbaaGreat
