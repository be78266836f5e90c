/- Trimmed by wip/trim.py to what this claim rests on. -/
import Derived.Test.YthhadkggldcolaaGreatVNe2
namespace Go.Proofs.YthhadkggldcolaaGreat
open Go.RowKit
theorem Aes {es:List Ent} {day:Int} {x:Ent} (hx:x∈Bok.upE es day):x.1<=day:=by
 unfold Bok.upE at hx
 obtain ⟨j,hj,rfl⟩:=List.mem_iff_getElem.1 hx
 rw [List.length_take] at hj
 rw [List.getElem_take]
 have:=List.not_of_lt_findIdx (p:=fun x:Ent=>decide (day<x.1)) (xs:=es) (i:=j) (by omega)
 simpa using this
theorem Adg {ride day:Int} (hd:0<=day) (es:List Ent):es.Pairwise (fun x y=>x.1<=y.1)->(∀ x∈es,x.1<=day)->(tsd es ride day=decide (lst (tsP ride) ride es=day))/\∀ B,0<=B->(∀ x∈es,x.1<=B)->lst (tsP ride) ride es<=B:=by
 refine Vo (P:=fun es=>es.Pairwise (fun x y=>x.1<=y.1)->(∀ x∈es,x.1<=day)->(tsd es ride day=decide (lst (tsP ride) ride es=day))/\∀ B,0<=B->(∀ x∈es,x.1<=B)->lst (tsP ride) ride es<=B) (fun _ _=>⟨?_,fun B hB _=>?_⟩) (fun es x ih hp hb=>?_) es
 ·have:¬ (-1:Int)=day:=by omega
  show false=decide ((-1:Int)=day)
  rw [decide_eq_false this]
 ·show (-1:Int)<=B
  omega
 rw [List.pairwise_append] at hp
 obtain ⟨i1,i2⟩:=ih hp.1 fun y hy=>hb y (by simp [hy])
 have hx:=hb x (by simp)
 have e1:tsd (es++[x]) ride day=(tsF ride day x).getD (tsd es ride day):=Jp
 have e2:lst (tsP ride) ride (es++[x])=(F0 (tsP ride) ride x).getD (lst (tsP ride) ride es):=Jp
 by_cases hr:x.2.2.1=ride
 ·by_cases h4:x.2.1=4
  ·have ht:tsP ride x=true:=by simp [tsP,h4,hr]
   have e3:lst (tsP ride) ride (es++[x])=x.1:=by rw [e2];unfold F0;rw [if_pos ht];rfl
   refine ⟨?_,fun B _ hB2=>by rw [e3];exact hB2 x (by simp)⟩
   rw [e1,e3]
   unfold tsF
   rw [if_pos hr,if_pos h4]
   by_cases hxd:x.1=day
   ·rw [if_pos hxd];exact (decide_eq_true hxd).symm
   ·rw [if_neg hxd]
    show tsd es ride day=_
    rw [i1,decide_eq_false hxd]
    refine decide_eq_false ?_
    rcases (by omega:x.1<0∨0<=x.1) with h0 | h0
    ·rcases AbQ (f:=F0 (tsP ride) ride) (d:=-1) es with e | ⟨y,hy,e⟩
     ·show ¬ scn (F0 (tsP ride) ride) (-1) es=day
      omega
     ·have hyx:=hp.2.2 y hy x (by simp)
      show ¬ scn (F0 (tsP ride) ride) (-1) es=day
      generalize scn (F0 (tsP ride) ride) (-1) es=z at *
      unfold F0 at e
      split at e
      ·cases e;omega
      ·split at e
       ·cases e;omega
       ·cases e
    ·have:=i2 x.1 h0 fun y hy=>hp.2.2 y hy x (by simp)
     omega
  ·have ht:tsP ride x=false:=by simp [tsP,h4]
   by_cases h6:x.2.1=6
   ·have e3:lst (tsP ride) ride (es++[x])=-1:=by rw [e2];unfold F0;rw [ht,if_neg (by decide),if_pos ⟨h6,hr⟩];rfl
    refine ⟨?_,fun B hB _=>by rw [e3];omega⟩
    rw [e1,e3]
    unfold tsF
    rw [if_pos hr,if_neg h4,if_pos h6]
    exact (decide_eq_false (show ¬ (-1:Int)=day by omega)).symm
   ·have e3:lst (tsP ride) ride (es++[x])=lst (tsP ride) ride es:=by rw [e2];unfold F0;rw [ht,if_neg (by decide),if_neg (fun h=>h6 h.1)];rfl
    refine ⟨?_,fun B hB hB2=>by rw [e3];exact i2 B hB fun y hy=>hB2 y (by simp [hy])⟩
    rw [e1,e3]
    unfold tsF
    rw [if_pos hr,if_neg h4,if_neg h6]
    exact i1
 ·have ht:tsP ride x=false:=by simp [tsP,hr]
  have e3:lst (tsP ride) ride (es++[x])=lst (tsP ride) ride es:=by rw [e2];unfold F0;rw [ht,if_neg (by decide),if_neg (fun h=>hr h.2)];rfl
  refine ⟨?_,fun B hB hB2=>by rw [e3];exact i2 B hB fun y hy=>hB2 y (by simp [hy])⟩
  rw [e1,e3]
  unfold tsF
  rw [if_neg hr]
  exact i1
theorem Adp {b:Bok} {es:List Ent} {r day:Int} (hd:0<=day):b.frc es r day=!decide (b.unt es r<day):=by
 unfold Bok.frc Bok.unt
 generalize lst (ckP r) (b.ru r).1 es=l
 by_cases h:l<0
 ·have:¬ 0<=l:=by omega
  have h2:(-1:Int)<day:=by omega
  rw [if_pos h,decide_eq_false this,decide_eq_true h2];rfl
 ·have:0<=l:=by omega
  rw [if_neg h,decide_eq_true this,Bool.true_and,← decide_not]
  exact decide_eq_decide.2 (by omega)
theorem YL {b:Bok} {es:List Ent} {ride day:Int} (hd:0<=day/\day<=10000):∀ k:Nat,(List.range k).all (fun r:Nat=>!decide ((b.ru (r:Nat)).1=ride)||b.frc es (r:Nat) day)=!decide (b.ckd es ride k<day)
 | 0=>by
  have:¬ (10000:Int)<day:=by omega
  show true=!decide ((10000:Int)<day)
  rw [decide_eq_false this];rfl
 | k+1=>by
  rw [List.range_succ,List.all_append,YL hd k]
  simp only [List.all_cons,List.all_nil,Bool.and_true]
  rw [Adp hd.1]
  show _=!decide ((if (b.ru (k:Nat)).1=ride then (if b.unt es (k:Nat)<b.ckd es ride k then b.unt es (k:Nat) else b.ckd es ride k) else b.ckd es ride k)<day)
  by_cases h:(b.ru (k:Nat)).1=ride
  ·rw [if_pos h,decide_eq_true h]
   by_cases h1:b.ckd es ride k<day
   ·have:(if b.unt es (k:Nat)<b.ckd es ride k then b.unt es (k:Nat) else b.ckd es ride k)<day:=by split<;>omega
    rw [decide_eq_true h1,decide_eq_true this];rfl
   ·rw [decide_eq_false h1]
    by_cases h2:b.unt es (k:Nat)<day
    ·have:(if b.unt es (k:Nat)<b.ckd es ride k then b.unt es (k:Nat) else b.ckd es ride k)<day:=by split<;>omega
     rw [decide_eq_true h2,decide_eq_true this];rfl
    ·have:¬ (if b.unt es (k:Nat)<b.ckd es ride k then b.unt es (k:Nat) else b.ckd es ride k)<day:=by split<;>omega
     rw [decide_eq_false h2,decide_eq_false this];rfl
  ·rw [if_neg h,decide_eq_false h]
   simp
theorem Adh {b:Bok} {es:List Ent} {ride day:Int} (hd:0<=day/\day<=10000) (he:OW es) (hu:∀ x∈es,x.1<=day):b.rsn es ride day=b.why es ride day:=by
 unfold Bok.rsn Bok.why Bok.chd
 rw [YL hd,(Adg hd.1 es he.o hu).1]
 congr 1
 congr 1
 ·congr 1
  by_cases h:b.ckd es ride b.R.length<day<;>simp [h]
 ·by_cases h:lst (tsP ride) ride es=day<;>simp [h]
section
variable {σ:Hp} {w:BkW} {E:SL} {b:Bok} {es:List Ent}
set_option maxRecDepth 100000 in
theorem W6 {day:Int} (h:LgR σ w E b es) (hc:E.n<=E.c):Af Tryz.prog QW #[w.v,E.v,.int .i64 day] σ (AaT 3 [.int .i64] σ (b.relD es day) (b.dayE es day)):=by
 refine Nl _ _ _ _ _ _ _ _ _ _ _ _ _ _ _ ?_
 unfold Fu
 refine clI Kr (Xf h hc) (Bu (fun e=>Ah ⟨_,_,_,rfl,?_⟩) (fun e=>?_))
 ·have e2:b.relD es day=[]:=if_neg e
  rw [e2];exact Ai.nil ..
 obtain ⟨hck,hd⟩:=Bok.dayE0 e
 obtain ⟨hb,hn,_⟩:=Bok.chk_ok hck
 have he:OW (Bok.upE es day):=(Bok.chk_es hck).take _
 have e2:b.relD es day=Ou b (Bok.upE es day) day b.I.length:=if_pos e
 rw [e2,e]
 have hin:=h.b.in
 have h10:=(Bok.ok_spec hb).2.2.1
 refine Ad fun J10 h10'=>?_
 refine ⟨fun m A n c i τ=>∃ k:Nat,m=b.I.length-k/\i=k/\k<=b.I.length/\Lse (fun a c'=>Ai 3 [.int .i64] a A n c (Ou b (Bok.upE es day) day k) c') σ τ,⟨_,0,rfl,rfl,by omega,⟨_,Ai.nil ..,Hp.Sub.refl _⟩⟩,?_⟩
 rintro m A n c i τ ⟨k,rfl,rfl,hk,ho⟩ _
 have hs:=Lse.sub Ar.own ho
 refine AA (fun hlt=>?_) (fun hlt=>?_)
 ·have hkl:k<b.I.length:=by omega
  refine Ad fun J20 h20=>?_
  have k20:∀ A n c τ',Lse (fun a c'=>Ai 3 [.int .i64] a A n c (Ou b (Bok.upE es day) day (k+1)) c') σ τ'->J20 A n c τ':=by
   intro A n c τ' ho'
   rw [h20]
   intro _
   exact AT (by omega) (A0 _ (by omega) ⟨k+1,rfl,by omega,by omega,ho'⟩)
  rw [UF] at k20
  refine Be Of (Adl (h.sub hs).e hc (by omega)) ?_
  rintro v τ1 ⟨rfl,n',rfl,hnc,hu⟩
  refine ⟨_,_,_,rfl,Hp.Sub.refl _,?_⟩
  refine Be LI (Yq (E:=⟨E.A,n',E.c⟩) (es:=Bok.upE es day) ⟨(h.sub hs).b,hu⟩ hb he (by omega) hd) ?_
  rintro v τ2 ⟨A2,n2,c2,rfl,ho2⟩
  rw [Adh hd he fun x hx=>Aes hx] at ho2
  have hn2:n2=(b.why (Bok.upE es day) (k:Nat) day).length:=ho2.len
  have ho3:=ho.up ho2.sub
  refine ⟨_,_,_,rfl,AA (fun e2=>?_) (fun e2=>k20 _ _ _ _ ?_)⟩
  ·rw [if_pos (by omega)] at k20
   obtain ⟨σ3,ho4,hs4⟩:=Lse.exact Ar.own ho3
   refine BR ho4 (Bb (by show (Ou b (Bok.upE es day) day k).length+1<=_;have:=TI b (Bok.upE es day) day k;omega) ?_)
   intro A' n' c' τ3 ho5
   exact k20 _ _ _ _ (Lse.low Ar.own (Lse.of ho5) hs4)
  ·rw [if_neg (by omega)]
   exact ho3
 ·obtain rfl:k=b.I.length:=by omega
  rw [h10']
  intro _
  obtain ⟨σ4,h6,h7⟩:=ho
  exact BM h7 ⟨_,_,_,rfl,h6⟩
end
end Go.Proofs.YthhadkggldcolaaGreat
