/- What this claim rests on. -/
import Derived.Test.YtoelhdjloaknbaaGreatUNt1
import Derived.Test.YtoelhdjloaknbaaGreatUNo1
namespace Go.Proofs.YtoelhdjloaknbaaGreat
open Go.RowKit Go.Proofs.Tryz
section
variable {σ:Hp} {W:GaW} {g:Gal} {l:SL} {ws:Nat->SL} {G:List Grp} {m:Int}
theorem ZK {ws ws':Nat->SL} {i j:Nat} {x:Grp} (h:ws' i=ws j):Fh ws' i x=Fh ws j x:=congrArg (fun s:SL=>((x.came,x.size,x.tokens,(s.A,s.n,s.c),x.patience):GRow)) h
def NI (G:List Grp) (ws:Nat->SL) (D:List Nat):List (TyR sG):=D.map fun j:Nat=>Fh ws j (gd G (j:Nat))
theorem Zo {F:List Bool}:(B0 G F).mapIdx (Fh fun i=>ws ((AX F).getD i 0))=NI G ws (AX F):=by
 refine List.ext_getElem (by simp [NI,B0]) fun i h1 h2=>?_
 have hi:i<(AX F).length:=by simpa [NI] using h2
 have e1:(NI G ws (AX F))[i]=Fh ws (AX F)[i] (gd G ((AX F)[i]:Nat)):=List.getElem_map ..
 rw [List.getElem_mapIdx,e1,N0]
 have e2:(AX F).getD i 0=(AX F)[i]:=by simp [List.getD,hi]
 exact ZK (congrArg ws e2)
theorem Aao {F:List Bool} {A:aA} {n c:Nat} (he:EvR σ W.r g.B l ws G) (hl:F.length=G.length) (ho:RdS sG σ A n (NI G ws (AX F))):EvR σ W.r g.B ⟨A,n,c⟩ (fun i=>ws ((AX F).getD i 0)) (B0 G F):=by
 refine ⟨he.r,(congrArg (fun z:List (TyR sG)=>RdS sG σ A n z) Zo).mpr ho,fun i hi=>?_⟩
 have hi':i<(AX F).length:=by rw [Cd] at hi;exact hi
 have hj:=(CW.1 (List.getElem_mem hi')).1
 have e2:(AX F).getD i 0=(AX F)[i]:=by simp [List.getD,hi']
 rw [N0 hi,Hv (by omega)]
 show RdS aM σ (ws ((AX F).getD i 0)).A (ws ((AX F).getD i 0)).n _
 rw [e2]
 exact he.w _ (by omega)
end
section
variable {σ:Hp} {W:GaW} {g:Gal} {l:SL} {ws:Nat->SL} {G:List Grp} {m:Int}
theorem EvR.gix5 {r:SL} {B:List BthG} (h:EvR σ r B l ws G) {k:Nat} (hk:k<G.length) {K:Nat->Nat->Prop}
  (hK:∀ b o,σ.cell? ⟨b,o,none⟩=some (aD (gd G (k:Nat)).came)->σ.cell? ⟨b,o+1,none⟩=some (aD (gd G (k:Nat)).size)->σ.cell? ⟨b,o+2,none⟩=some (aD (gd G (k:Nat)).tokens)->σ.cell? ⟨b,o+3,none⟩=some (ws k).v->σ.cell? ⟨b,o+4,none⟩=some (aD (gd G (k:Nat)).patience)->K b o):ix l.A l.n (k:Nat) 5 K:=by
 rw [Hv hk] at hK
 exact h.group hk hK
end
end Go.Proofs.YtoelhdjloaknbaaGreat
