/- Trimmed by wip/trim.py to what this claim rests on. -/
import Derived.Test.YthhadkggldcolaaGreatYNc1
import Derived.Test.YthhadkggldcolaaGreatYNa4
import Derived.Test.YthhadkggldcolaaGreatYB11
import Derived.Test.YthhadkggldcolaaGreatYNe4
namespace Go.Proofs.YthhadkggldcolaaGreat
open Go.RowKit
theorem QF {n:Nat} {l:List Int} (hs:l.Pairwise (· < ·)) (hl:∀ x∈l,0<=x/\x<n):((List.range n).filter fun i:Nat=>decide ((i:Int)∈l)).map (fun i:Nat=>(i:Int))=l:=by
 have h1:(((List.range n).filter fun i:Nat=>decide ((i:Int)∈l)).map (fun i:Nat=>(i:Int))).Pairwise (· < ·):=by
  rw [List.pairwise_map]
  refine (List.Pairwise.filter _ List.pairwise_lt_range).imp fun h=>by omega
 have hn:∀ {l:List Int},l.Pairwise (· < ·)->l.Nodup:=fun h=>List.Pairwise.imp (fun h=>by omega) h
 refine Ew (R:=fun a b:Int=>a<=b) ((List.perm_ext_iff_of_nodup (hn h1) (hn hs)).2 fun a=>?_) (h1.imp fun h=>by omega) (hs.imp fun h=>by omega) fun a _ b _ h1 h2=>by omega
 rw [List.mem_map]
 constructor
 ·rintro ⟨i,hi,rfl⟩
  rw [List.mem_filter] at hi
  exact of_decide_eq_true hi.2
 ·intro ha
  have:=hl a ha
  refine ⟨a.toNat,?_,by omega⟩
  rw [List.mem_filter,List.mem_range]
  have e:((a.toNat:Nat):Int)=a:=by omega
  exact ⟨by omega,by rw [e];exact decide_eq_true ha⟩
theorem SJ (b:Bok) (es:List Ent) (day:Int) (k:Nat):(M6 b es day k).Pairwise (· < ·):=by
 unfold M6
 rw [List.pairwise_map]
 exact (List.Pairwise.filter _ List.pairwise_lt_range).imp fun h=>by omega
theorem Va {S:Sup}:∀ (l:List Int) (s:Nat×List Int),∃ l',l'.Sublist l/\(l.foldl (opF S) s).2=s.2++l'
 | [],s=>⟨[],List.Sublist.refl _,by simp⟩
 | x::l,s=>by
  rw [List.foldl_cons]
  obtain ⟨l',h1,h2⟩:=Va l (opF S s x)
  unfold opF at h2 ⊢
  split at h2
  ·rename_i e
   rw [if_pos e]
   exact ⟨x::l',h1.cons_cons x,by rw [h2];simp⟩
  ·rename_i e
   rw [if_neg e]
   exact ⟨l',h1.cons x,h2⟩
theorem Gal.open_sub (g:Gal):g.open.Sublist g.rel:=by
 obtain ⟨l',h1,h2⟩:=Va (S:=g.S) (g.rel.take g.rel.length) (0,[])
 rw [List.take_length] at h1
 unfold Gal.open Gal.opS
 rw [h2]
 exact h1
theorem Ci.open_sorted {g:Gal} (h:Ci g):g.open.Pairwise (· < ·):=by
 refine List.Pairwise.sublist g.open_sub ?_
 unfold Gal.rel
 rw [show g.b.relD g.es g.day=M6 g.b (Bok.upE g.es g.day) g.day g.b.I.length from if_pos h.dayE]
 exact SJ _ _ _ _
theorem Ci.open_in {g:Gal} (h:Ci g) {r:Int} (hr:r∈g.open):0<=r/\r<g.B.length:=h.rel_in (g.open_sub.subset hr)
theorem Ci.open_len {g:Gal} (h:Ci g):g.open.length<=g.B.length:=Nat.le_trans g.open_sub.length_le h.rel_len
section
variable {σ:Hp} {W:GaW} {g:Gal}
end
end Go.Proofs.YthhadkggldcolaaGreat
