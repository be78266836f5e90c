/- What this claim rests on. -/
import Derived.Test.YtoelhdjloaknbaaGreatUQb10
namespace Go.Proofs.YtoelhdjloaknbaaGreat
open Go.RowKit Go.Proofs.Tryz
def okB (b:BthG):Bool:=decide (1<=b.seats/\b.seats<=40)&&(decide (0<=b.price/\b.price<=100)&&(decide (1<=b.cycle/\b.cycle<=100)&&decide (0<=b.pause/\b.pause<=100)))
def Ny (w:Int) (B:List BthG):Bool:=decide (B.length<=8)&&(decide (0<=w/\w<=100)&&(List.range B.length).all fun k=>okB (bd B k))
def okW (m:Nat) (x:Int):Bool:=decide (0<=x/\x<=(m:Int)-1)
def okG (m:Nat) (g:Grp):Bool:=decide (0<=g.came/\g.came<=2000)&&(decide (1<=g.size/\g.size<=40)&&(decide (0<=g.tokens/\g.tokens<=10000)&&(decide (0<=g.patience/\g.patience<=2000)&&(decide (g.wants.length<=10)&&(List.range g.wants.length).all fun j=>okW m (gt g.wants j)))))
def Fs (w:Int) (B:List BthG) (G:List Grp):Int:=if Ny w B=false then 70 else if 60<G.length then 71 else if ((List.range G.length).all fun k=>okG B.length (gd G k))=false then 71 else 0
theorem H8 {n:Nat} {p:Nat->Bool} (h:((List.range n).all p)=true) {k:Nat} (hk:k<n):p k=true:=List.all_eq_true.1 h k (List.mem_range.2 hk)
theorem Cu {w:Int} {B:List BthG} {G:List Grp} (h:Fs w B G=0):Val w B G:=by
 unfold Fs at h
 split at h
 ·omega
 ·rename_i h1
  split at h
  ·omega
  ·rename_i h2
   split at h
   ·omega
   ·rename_i h3
    have h1:Ny w B=true:=by simpa using h1
    have h3:((List.range G.length).all fun k=>okG B.length (gd G k))=true:=by simpa using h3
    unfold Ny at h1
    rw [Bool.and_eq_true,Bool.and_eq_true,decide_eq_true_eq,decide_eq_true_eq] at h1
    obtain ⟨a1,a2,a3⟩:=h1
    refine ⟨a2,a1,fun b hb=>?_,by omega,fun g hg=>?_⟩
    ·obtain ⟨i,hi,rfl⟩:=List.getElem_of_mem hb
     have:=H8 a3 hi
     have e1:bd B i=B[i]:=by unfold bd;simp [List.getD,hi]
     rw [e1] at this
     unfold okB at this
     simp only [Bool.and_eq_true,decide_eq_true_eq] at this
     exact this
    ·obtain ⟨i,hi,rfl⟩:=List.getElem_of_mem hg
     have:=H8 h3 hi
     have e1:gd G i=G[i]:=by unfold gd;simp [List.getD,hi]
     rw [e1] at this
     unfold okG at this
     simp only [Bool.and_eq_true,decide_eq_true_eq] at this
     obtain ⟨b1,b2,b3,b4,b5,b6⟩:=this
     refine ⟨b1,b2,b3,b5,b4,fun x hx=>?_⟩
     obtain ⟨j,hj,rfl⟩:=List.getElem_of_mem hx
     have:=H8 b6 hj
     rw [B3 hj] at this
     unfold okW at this
     have:=of_decide_eq_true this
     omega
theorem Xb {n:Nat} {p:Nat->Bool}:(List.range (n+1)).all p=((List.range n).all p&&p n):=by
 rw [List.range_succ,List.all_append]
 simp
theorem Xp {n:Nat} {p:Nat->Bool}:(List.range (n+1)).any p=((List.range n).any p||p n):=by
 rw [List.range_succ,List.any_append]
 simp
theorem KS {n k:Nat} {p:Nat->Bool} (hk:k<n) (h:p k=true):(List.range n).any p=true:=List.any_eq_true.2 ⟨k,List.mem_range.2 hk,h⟩
theorem Lf {n:Nat} {p:Nat->Bool} (h:∀ k,k<n->p k=false):(List.range n).any p=false:=by
 cases e:(List.range n).any p with
 | false=>rfl
 | true=>
  obtain ⟨k,hk,hp⟩:=List.any_eq_true.1 e
  rw [h k (List.mem_range.1 hk)] at hp
  cases hp
theorem KN {n:Nat} {p:Nat->Bool}:(List.range n).any (fun k=>!p k)=!(List.range n).all p:=by
 induction n with
 | zero=>rfl
 | succ n ih=>rw [Xp,Xb,ih];cases (List.range n).all p<;>cases p n<;>rfl
section
variable {σ:Hp} {w:Int} {r l:SL} {B:List BthG} {ws:Nat->SL} {G:List Grp}
theorem Yb {n lo hi:Int}:Af prog 126 #[aD n,aD lo,aD hi] σ fun v σ'=>v=.bool (decide (lo<=n/\n<=hi))/\σ'=σ:=by
 apply NG
 unfold Gv
 refine AF (fun h=>Al ⟨?_,rfl⟩) (fun h=>Al ⟨?_,rfl⟩)
 ·rw [decide_eq_decide.2 (show n<=hi↔lo<=n/\n<=hi from ⟨fun h'=>⟨h,h'⟩,fun h'=>h'.2⟩)]
 ·rw [decide_eq_false fun h'=>h h'.1]
theorem Rc {n lo hi:Int} {K:Bool->Hp->Prop} (h:K (decide (lo<=n/\n<=hi)) σ):aC 126 #[aD n,aD lo,aD hi] σ fun v σ'=>∃ t:Bool,(v=.bool t/\K t σ'):=clB (aV 126) Yb h
theorem Tm {A:aA} {n c:Nat} {xs:List Int} {f:Value} {p:Nat->Bool} (hx:RdS aM σ A n xs) (hl:xs.length<=4294967296)
  (hf:∀ k,k<xs.length->cl prog f #[aD (gt xs k)] σ fun v σ'=>v=.bool (p k)/\σ'=σ):
  Af prog 73 #[aN A n c,f] σ fun v σ'=>∃ j:Int,v=aD j/\decide (0<=j)=(List.range xs.length).any p/\σ'=σ:=by
 apply C8
 unfold BZ
 have hn:=hx.lenI
 refine Ah fun J3 h3=>?_
 refine ⟨fun m i τ=>∃ k:Nat,m=xs.length-k/\i=k/\k<=xs.length/\τ=σ/\∀ j,j<k->p j=false,⟨_,0,rfl,rfl,by omega,rfl,fun j h=>by omega⟩,?_⟩
 rintro m i τ ⟨k,rfl,rfl,hk,rfl,hj⟩ _
 refine AF (fun hlt=>?_) (fun hlt=>?_)
 ·have hkl:k<xs.length:=by omega
  refine EJ hx (by omega) (by omega) (B7.mono (hf k hkl) ?_)
  rintro _ _ ⟨rfl,rfl⟩
  refine ⟨_,rfl,C4 (fun hp=>Al ⟨k,rfl,?_,rfl⟩) (fun hp=>AS (by omega) (Be _ (by omega) ⟨k+1,rfl,by omega,by omega,rfl,fun j hjk=>?_⟩))⟩
  ·rw [KS hkl hp,decide_eq_true (by omega)]
  ·rcases Nat.lt_or_ge j k with h1 | h1
   ·exact hj j h1
   ·have:j=k:=by omega
    subst this;exact hp
 ·have:k=xs.length:=by omega
  subst this
  rw [h3]
  intro _
  refine Al ⟨-1,rfl,?_,rfl⟩
  rw [Lf fun j h=>hj j h]
  rfl
theorem QP {A:aA} {n c:Nat} {xs:List Int} {f:Value} {p:Nat->Bool} (hx:RdS aM σ A n xs) (hl:xs.length<=4294967296)
  (hf:∀ k,k<xs.length->cl prog f #[aD (gt xs k)] σ fun v σ'=>v=.bool (p k)/\σ'=σ):
  Af prog 33 #[aN A n c,f] σ fun v σ'=>v=.bool ((List.range xs.length).any p)/\σ'=σ:=by
 apply Cs
 unfold BC
 refine AW (aV 73) (Tm hx hl hf) ?_
 rintro _ _ ⟨j,rfl,hj,rfl⟩
 exact ⟨_,rfl,Al ⟨by rw [hj],rfl⟩⟩
theorem OQ {f:Value} {p:Nat->Bool} (hr:EvR σ r B l ws G) (hl:B.length<=4294967296)
  (hf:∀ k,(hk:k<B.length)->cl prog f #[.agg #[aD B[k].seats,aD B[k].price,aD B[k].cycle,aD B[k].pause,.bool B[k].fill]] σ fun v σ'=>v=.bool (p k)/\σ'=σ):
  Af prog 181 #[r.v,f] σ fun v σ'=>v=.bool ((List.range B.length).any p)/\σ'=σ:=by
 apply DH
 unfold Bz
 have hn:=hr.lenR
 have:Af prog 237 #[aN r.A r.n r.c,f] σ fun v σ'=>∃ j:Int,v=aD j/\decide (0<=j)=(List.range B.length).any p/\σ'=σ:=by
  apply EP
  unfold BS
  refine Ah fun J3 h3=>?_
  refine ⟨fun m i τ=>∃ k:Nat,m=B.length-k/\i=k/\k<=B.length/\τ=σ/\∀ j,j<k->p j=false,⟨_,0,rfl,rfl,by omega,rfl,fun j h=>by omega⟩,?_⟩
  rintro m i τ ⟨k,rfl,rfl,hk,rfl,hj⟩ _
  refine AF (fun hlt=>?_) (fun hlt=>?_)
  ·have hkl:k<B.length:=by omega
   refine hr.ride hkl fun b o c0 c1 c2 c3 c4=>?_
   refine ⟨_,c0,_,c1,_,c2,_,c3,_,c4,B7.mono (hf k hkl) ?_⟩
   rintro _ _ ⟨rfl,rfl⟩
   refine ⟨_,rfl,C4 (fun hp=>Al ⟨k,rfl,?_,rfl⟩) (fun hp=>AS (by omega) (Be _ (by omega) ⟨k+1,rfl,by omega,by omega,rfl,fun j hjk=>?_⟩))⟩
   ·rw [KS hkl hp,decide_eq_true (by omega)]
   ·rcases Nat.lt_or_ge j k with h1 | h1
    ·exact hj j h1
    ·have:j=k:=by omega
     subst this;exact hp
  ·have:k=B.length:=by omega
   subst this
   rw [h3]
   intro _
   refine Al ⟨-1,rfl,?_,rfl⟩
   rw [Lf fun j h=>hj j h]
   rfl
 refine AW (aV 237) this ?_
 rintro _ _ ⟨j,rfl,hj,rfl⟩
 exact ⟨_,rfl,Al ⟨by rw [hj],rfl⟩⟩
theorem Oo {f:Value} {p:Nat->Bool} (hr:EvR σ r B l ws G) (hl:G.length<=4294967296)
  (hf:∀ k,(hk:k<G.length)->cl prog f #[.agg #[aD G[k].came,aD G[k].size,aD G[k].tokens,(ws k).v,aD G[k].patience]] σ fun v σ'=>v=.bool (p k)/\σ'=σ):
  Af prog 127 #[l.v,f] σ fun v σ'=>v=.bool ((List.range G.length).any p)/\σ'=σ:=by
 apply DI
 unfold BB
 have hn:=hr.lenL
 have:Af prog 182 #[aN l.A l.n l.c,f] σ fun v σ'=>∃ j:Int,v=aD j/\decide (0<=j)=(List.range G.length).any p/\σ'=σ:=by
  apply EM
  unfold BT
  refine Ah fun J3 h3=>?_
  refine ⟨fun m i τ=>∃ k:Nat,m=G.length-k/\i=k/\k<=G.length/\τ=σ/\∀ j,j<k->p j=false,⟨_,0,rfl,rfl,by omega,rfl,fun j h=>by omega⟩,?_⟩
  rintro m i τ ⟨k,rfl,rfl,hk,rfl,hj⟩ _
  refine AF (fun hlt=>?_) (fun hlt=>?_)
  ·have hkl:k<G.length:=by omega
   refine hr.group hkl fun b o c0 c1 c2 c3 c4=>?_
   refine ⟨_,c0,_,c1,_,c2,_,_,_,c3,_,c4,B7.mono (hf k hkl) ?_⟩
   rintro _ _ ⟨rfl,rfl⟩
   refine ⟨_,rfl,C4 (fun hp=>Al ⟨k,rfl,?_,rfl⟩) (fun hp=>AS (by omega) (Be _ (by omega) ⟨k+1,rfl,by omega,by omega,rfl,fun j hjk=>?_⟩))⟩
   ·rw [KS hkl hp,decide_eq_true (by omega)]
   ·rcases Nat.lt_or_ge j k with h1 | h1
    ·exact hj j h1
    ·have:j=k:=by omega
     subst this;exact hp
  ·have:k=G.length:=by omega
   subst this
   rw [h3]
   intro _
   refine Al ⟨-1,rfl,?_,rfl⟩
   rw [Lf fun j h=>hj j h]
   rfl
 refine AW (aV 182) this ?_
 rintro _ _ ⟨j,rfl,hj,rfl⟩
 exact ⟨_,rfl,Al ⟨by rw [hj],rfl⟩⟩
theorem T9 {b:BthG}:Af prog 180 #[.agg #[aD b.seats,aD b.price,aD b.cycle,aD b.pause,.bool b.fill]] σ fun v σ'=>v=.bool (!okB b)/\σ'=σ:=by
 apply Kr
 unfold Ek
 unfold okB
 refine Rc (BQ (fun h=>Al ⟨by rw [decide_eq_false h];rfl,rfl⟩) (fun h1=>Rc (BQ (fun h=>Al ⟨by rw [decide_eq_true h1,decide_eq_false h];rfl,rfl⟩) (fun h2=>Rc (BQ (fun h=>Al ⟨by rw [decide_eq_true h1,decide_eq_true h2,decide_eq_false h];rfl,rfl⟩) (fun h3=>Rc (Al ⟨by rw [decide_eq_true h1,decide_eq_true h2,decide_eq_true h3];rfl,rfl⟩)))))))
theorem Wn (hr:EvR σ r B l ws G):Af prog 123 #[.agg #[r.v,aD w]] σ fun v σ'=>v=aD (if Ny w B=true then 0 else 70)/\σ'=σ:=by
 apply Mq
 unfold FC
 have hn:=hr.lenR
 refine Ah fun J3 h3=>Ah fun J6 h6=>?_
 have k6:∀ t,t=!Ny w B->J6 t σ:=by
  rintro t rfl
  rw [h6]
  intro _
  refine B5 (fun h=>Al ⟨by rw [h];rfl,rfl⟩) (fun h=>?_)
  rw [h3]
  intro _
  exact Al ⟨by rw [h];rfl,rfl⟩
 refine AF (fun h=>k6 _ ?_) (fun h=>Rc (BQ (fun h2=>k6 _ ?_) (fun h2=>clB (aV 181) (OQ (p:=fun k=>!okB (bd B k)) hr (by omega) fun k hk=>?_) (k6 _ ?_))))
 ·unfold Ny;rw [decide_eq_false (by omega)];rfl
 ·unfold Ny;rw [decide_eq_false h2,Bool.false_and,Bool.and_false];rfl
 ·have e1:bd B k=B[k]:=by unfold bd;simp [List.getD,hk]
  rw [e1]
  exact AW (aV 180) T9 fun v σ' h=>h
 ·unfold Ny
  rw [KN,decide_eq_true (show B.length<=8 by omega),decide_eq_true h2]
  rfl
theorem WD {p:aA} {g:Grp} {s:SL} (hp:∃ b rw,p=some ⟨b,0,none⟩/\σ b=some (.cells #[r.v,aD w] 24 (0,0),rw)) (hm:r.n<=1000000) (hw:RdS aM σ s.A s.n g.wants):
  Af prog 124 #[.agg #[aD g.came,aD g.size,aD g.tokens,s.v,aD g.patience],.pointer p] σ fun v σ'=>v=.bool (!okG r.n g)/\σ'=σ:=by
 apply MH
 unfold FJ
 unfold okG
 have hwl:=hw.lenI
 refine Rc (BQ (fun h=>Al ⟨by rw [decide_eq_false h];rfl,rfl⟩) (fun h1=>Rc (BQ (fun h=>Al ⟨by rw [decide_eq_true h1,decide_eq_false h];rfl,rfl⟩) (fun h2=>Rc (BQ (fun h=>Al ⟨by rw [decide_eq_true h1,decide_eq_true h2,decide_eq_false h];rfl,rfl⟩) (fun h3=>Rc (BQ (fun h=>Al ⟨by rw [decide_eq_true h1,decide_eq_true h2,decide_eq_true h3,decide_eq_false h];rfl,rfl⟩) (fun h4=>?_))))))))
 rw [decide_eq_true h1,decide_eq_true h2,decide_eq_true h3,decide_eq_true h4]
 refine AF (fun h5=>Al ⟨?_,rfl⟩) (fun h5=>clB (aV 33) (QP (p:=fun j=>!okW r.n (gt g.wants j)) hw (by omega) fun k hk=>?_) (Al ⟨?_,rfl⟩))
 ·rw [decide_eq_false (show ¬ g.wants.length<=10 by omega)];rfl
 ·obtain ⟨b,rw',rfl,hb⟩:=hp
  refine B7.func (aV 125) ?_
  refine KI _ _ _ _ ?_
  unfold EG
  refine AG (Bu hb rfl (AS (by omega) (Rc (Al ⟨rfl,rfl⟩))))
 ·rw [KN,decide_eq_true (show g.wants.length<=10 by omega)];rfl
theorem Sk (hr:EvR σ r B l ws G):Af prog 68 #[.agg #[r.v,aD w],l.v] σ fun v σ'=>v=aD (Fs w B G)/\σ'=σ:=by
 apply Oi
 unfold HI
 have hn:=hr.lenR
 have hl:=hr.lenL
 unfold Fs
 refine clI (aV 123) (Wn hr) (BQ (fun h=>?_) (fun h=>?_))
 ·have h1:¬ Ny w B=true:=fun h'=>h (if_pos h')
  have h2:Ny w B=false:=by simpa using h1
  rw [if_neg h1,if_pos h2]
  exact Al ⟨rfl,rfl⟩
 ·have h1:Ny w B=true:=by
   by_cases c:Ny w B=true
   ·exact c
   ·rw [if_neg c] at h;omega
  rw [h1,if_neg (show ¬ true=false by simp)]
  have hB:B.length<=8:=by
   unfold Ny at h1
   rw [Bool.and_eq_true,decide_eq_true_eq] at h1
   exact h1.1
  intro b4 n4
  have hs:=Hp.Sub.ins (.cells #[r.v,aD w] 24 (0,0)) n4
  have hr2:=hr.sub hs
  have hb4:(σ.ins b4 (.cells #[r.v,aD w] 24 (0,0))) b4=some (.cells #[r.v,aD w] 24 (0,0),true):=Hp.ins_same ..
  change cut _ _
  have heq:(σ.ins b4 (.cells #[aN r.A r.n r.c,aD w] 24))=σ.ins b4 (.cells #[r.v,aD w] 24 (0,0)):=rfl
  rw [heq]
  generalize σ.ins b4 (.cells #[r.v,aD w] 24 (0,0))=s5 at *
  refine Ah fun J8 h8=>Ah fun J11 h11=>?_
  have k11:∀ t,t=(decide (60<G.length) || !(List.range G.length).all fun k=>okG B.length (gd G k))->J11 t s5:=by
   rintro t rfl
   rw [h11]
   intro _
   refine C4 (fun ht=>Bm hs ⟨?_,rfl⟩) (fun ht=>?_)
   ·by_cases c:60<G.length
    ·rw [if_pos c]
    ·rw [decide_eq_false c,Bool.false_or,Bool.not_eq_true'] at ht
     rw [if_neg c,if_pos ht]
   ·rw [Bool.or_eq_false_iff,Bool.not_eq_false'] at ht
    have c:=of_decide_eq_false ht.1
    rw [h8]
    intro _
    refine Bm hs ⟨?_,rfl⟩
    rw [if_neg c,ht.2,if_neg (by simp)]
  refine AF (fun c=>k11 _ ?_) (fun c=>clB (aV 127) (Oo (p:=fun k=>!okG B.length (gd G k)) hr2 (by omega) fun k hk=>?_) (k11 _ ?_))
  ·rw [decide_eq_true (show 60<G.length by omega)];rfl
  ·have e1:gd G k=G[k]:=by unfold gd;simp [List.getD,hk]
   rw [e1]
   refine B7.func (aV 124) ?_
   have:=WD (σ:=s5) (w:=w) (r:=r) (g:=G[k]) (s:=ws k) ⟨b4,true,rfl,hb4⟩ (by omega) (hr2.w k hk)
   rw [hn] at this
   exact this
  ·rw [KN,decide_eq_false (show ¬ 60<G.length by omega)];rfl
end
section
variable {σ:Hp} {w:Int} {r l:SL} {B:List BthG} {ws:Nat->SL} {G:List Grp}
def UQ (B:List BthG) (G:List Grp):Bool:=decide (10<B.length)||(decide (70<G.length)||(List.range G.length).any fun k=>decide (20<(gd G k).wants.length))
theorem Abe (hr:EvR σ r B l ws G):Af prog 45 #[.agg #[r.v,aD w],l.v] σ fun v σ'=>v=.bool (UQ B G)/\σ'=σ:=by
 apply QI
 unfold KZ
 have hn:=hr.lenR
 have hl:=hr.lenL
 refine Ah fun J3 h3=>Ah fun J20 h20=>?_
 have k3:¬ 10<B.length->¬ 70<G.length->J3 σ:=by
  intro a1 a2
  have hf:UQ B G=(List.range G.length).any fun k=>decide (20<(gd G k).wants.length):=by unfold UQ;rw [decide_eq_false a1,decide_eq_false a2];rfl
  rw [h3]
  intro _
  refine Ah fun J6 h6=>?_
  refine ⟨fun m i τ=>∃ k:Nat,m=G.length-k/\i=k/\k<=G.length/\τ=σ/\∀ j,j<k->decide (20<(gd G j).wants.length)=false,⟨_,0,rfl,rfl,by omega,rfl,fun j h=>by omega⟩,?_⟩
  rintro m i τ ⟨k,rfl,rfl,hk,rfl,hj⟩ _
  refine AF (fun hlt=>?_) (fun hlt=>?_)
  ·have hkl:k<G.length:=by omega
   have e1:gd G k=G[k]:=by unfold gd;simp [List.getD,hkl]
   have hwl:=(hr.w k hkl).lenI
   refine hr.group hkl fun b o c0 c1 c2 c3 c4=>⟨_,_,_,c3,?_⟩
   refine AF (fun h=>Al ⟨?_,rfl⟩) (fun h=>AS (by omega) (Be _ (by omega) ⟨k+1,rfl,by omega,by omega,rfl,fun j hjk=>?_⟩))
   ·rw [hf,KS hkl (decide_eq_true (by rw [e1];omega))]
   ·rcases Nat.lt_or_ge j k with h1 | h1
    ·exact hj j h1
    ·have:j=k:=by omega
     subst this
     exact decide_eq_false (by rw [e1];omega)
  ·have:k=G.length:=by omega
   subst this
   rw [h6]
   intro _
   exact Al ⟨by rw [hf,Lf fun j h=>hj j h],rfl⟩
 have k20:∀ t,t=(decide (10<B.length)||decide (70<G.length))->J20 t σ:=by
  rintro t rfl
  rw [h20]
  intro _
  refine C4 (fun h=>Al ⟨?_,rfl⟩) (fun h=>?_)
  ·unfold UQ
   rw [← Bool.or_assoc,h,Bool.true_or]
  ·rw [Bool.or_eq_false_iff] at h
   exact k3 (of_decide_eq_false h.1) (of_decide_eq_false h.2)
 refine AF (fun h=>k20 _ ?_) (fun h=>k20 _ ?_)
 ·rw [decide_eq_true (show 10<B.length by omega),Bool.true_or]
 ·rw [decide_eq_false (show ¬ 10<B.length by omega),Bool.false_or]
  exact decide_eq_decide.2 (by omega)
theorem Aa0 (h:UQ B G=false):B.length<=10/\G.length<=70/\∀ k,(h:k<G.length)->G[k].wants.length<=20:=by
 unfold UQ at h
 rw [Bool.or_eq_false_iff,Bool.or_eq_false_iff] at h
 obtain ⟨h1,h2,h3⟩:=h
 have h1:=of_decide_eq_false h1
 have h2:=of_decide_eq_false h2
 refine ⟨by omega,by omega,fun k hk=>?_⟩
 by_cases c:20<(gd G k).wants.length
 ·rw [KS hk (decide_eq_true c)] at h3;cases h3
 ·have e1:gd G k=G[k]:=by unfold gd;simp [List.getD,hk]
  rw [e1] at c
  omega
theorem Aai (hr:EvR σ r B l ws G) (hB:B.length<=4294967296):Af prog 38 #[.agg #[r.v,aD w]] σ fun v σ'=>∃ r':SL,v=.agg #[r'.v,aD w]/\Ak 77 sB σ r'.A r'.n r'.c (B.map Kv) σ':=by
 apply Pg
 unfold IK
 have hl:(B.map Kv).length<=4294967296:=by rw [List.length_map];exact hB
 have key:∀ A n c σ',Ak 77 sB σ A n c ([]++B.map Kv) σ'->rt σ' (fun v σ'=>∃ r':SL,v=.agg #[r'.v,aD w]/\Ak 77 sB σ r'.A r'.n r'.c (B.map Kv) σ') (.agg #[aN A n c,aD w]):=fun A n c σ' ho=>Al ⟨⟨A,n,c⟩,rfl,ho⟩
 have hro:AZ (([]:List (TyR sB)).length+(B.map Kv).length) (∀ A n c σ',Ak 77 sB σ A n c ([]++B.map Kv) σ'->rt σ' (fun v σ'=>∃ r':SL,v=.agg #[r'.v,aD w]/\Ak 77 sB σ r'.A r'.n r'.c (B.map Kv) σ') (.agg #[aN A n c,aD w])):=AY (by rw [List.length_nil,Nat.zero_add];exact hl) key
 exact ⟨⟨⟨_,hr.r,hro⟩,⟨_,hr.r,hro⟩⟩,⟨_,hr.r,hro⟩⟩
theorem UO {ws ws':Nat->SL} {k:Nat} {g:Grp} (hk:k<G.length) (hg:G[k]=g) (h:∀ i,i≠k->ws' i=ws i):(G.mapIdx (Fh ws)).set k (Fh ws' k g)=G.mapIdx (Fh ws'):=by
 apply List.ext_getElem
 ·simp
 ·intro i h1 h2
  rw [List.getElem_set]
  simp only [List.getElem_mapIdx]
  by_cases c:k=i
  ·subst c
   rw [if_pos rfl,hg]
  ·rw [if_neg c]
   unfold Fh
   rw [h i fun e=>c e.symm]
theorem Sr (hr:EvR σ r B l ws G) (hG:G.length<=4294967296) (hW:∀ k,(h:k<G.length)->G[k].wants.length<=4294967296):Af prog 51 #[l.v] σ fun v σ'=>∃ (l':SL) (ws':Nat->SL),v=l'.v/\Hp.Sub σ σ'/\RdS sG σ' l'.A l'.n (G.mapIdx (Fh ws'))/\∀ i,(h:i<G.length)->RdS aM σ' (ws' i).A (ws' i).n G[i].wants:=by
 apply J2
 unfold DT
 refine ⟨_,hr.l,AY (by rw [List.length_nil,Nat.zero_add];exact Nat.le_trans (Nat.le_of_eq (List.length_mapIdx ..)) hG) ?_⟩
 refine Ah fun J4 h4=>?_
 refine ⟨fun m A n c i τ=>∃ (k:Nat) (ws':Nat->SL) (sx:Hp),m=G.length-k/\i=k/\k<=G.length/\Hp.Sub σ sx/\Ak 65 sG sx A n c (G.mapIdx (Fh ws')) τ/\(∀ i,(h:i<G.length)->RdS aM sx (ws' i).A (ws' i).n G[i].wants),⟨G.length,?_⟩,?_⟩
 ·intro A n c σ' ho
  exact ⟨0,ws,σ,rfl,rfl,by omega,Hp.Sub.refl _,ho,hr.w⟩
 rintro m A n c i τ ⟨k,ws',sx,rfl,rfl,hk,hs,ho,hw⟩ _
 have hlen:n=G.length:=by rw [ho.len];exact List.length_mapIdx ..
 refine AF (fun hlt=>?_) (fun hlt=>?_)
 ·have hkl:k<G.length:=by omega
  have hW:=hW k hkl
  have hix:∀ {K:Nat->Nat->Prop},(∀ b off,A=some ⟨b,off,none⟩->K b (off+k*5))->ix A n k 5 K:=fun {K} hK=>by
   rcases ho with ⟨_,_,_,he,_⟩ | ⟨b,off,cells,hA,_⟩
   ·have:(G.mapIdx (Fh ws')).length=0:=by rw [he];rfl
    rw [List.length_mapIdx] at this
    omega
   ·subst hA
    refine ⟨by omega,by omega,?_⟩
    rw [Ce]
    exact hK b off rfl
  have hrd:=ho.rd
  have hk':(k:Int).toNat<(G.mapIdx (Fh ws')).length:=by simpa using hkl
  refine Eg hrd rfl (by omega) hk' fun b o hc=>?_
  have e:(G.mapIdx (Fh ws'))[(k:Int).toNat]'hk'=Fh ws' k G[k]:=by simp
  rw [e] at hc
  refine ⟨_,_,_,hc 3 (by show 3<5;omega),G[k].wants,(hw k hkl).sub ho.sub,AY (by rw [List.length_nil,Nat.zero_add];exact hW) (hix fun b off hA=>?_)⟩
  intro A20 l20 c20 s21 o21
  obtain ⟨sx',o1,o2⟩:=ho.swap o21
  have hk2:k<(G.mapIdx (Fh ws')).length:=by simpa using hkl
  obtain ⟨b',off',hA',hput⟩:=o2.put (Hp.Sub.refl _) hk2
  rw [hA] at hA'
  cases hA'
  have eg:(G.mapIdx (Fh ws'))[k]=Fh ws' k G[k]:=by simp
  obtain ⟨wz,z1,z2⟩:∃ wz:Nat->SL,wz k=⟨A20,l20,c20⟩/\∀ i,i≠k->wz i=ws' i:=⟨fun i=>if i=k then ⟨A20,l20,c20⟩ else ws' i,if_pos rfl,fun i h=>if_neg h⟩
  obtain ⟨w1,σ2,w2,w3⟩:=hput 3 (aN A20 l20 c20) (Fh wz k G[k]) (by rw [eg];unfold Fh;rw [z1];rfl)
  refine ⟨w1,AS (by omega) (Un _ (by omega) w3 ⟨k+1,wz,sx',rfl,by omega,by omega,hs.trans o1.sub,?_,fun i hi=>?_⟩)⟩
  ·have:=UO (G:=G) (ws:=ws') (ws':=wz) hkl rfl z2
   rw [this] at w2
   exact w2
  ·by_cases c':i=k
   ·subst c'
    rw [z1]
    exact o1.rd
   ·rw [z2 i c']
    exact (hw i hi).sub o1.sub
 ·have:k=G.length:=by omega
  subst this
  rw [h4]
  intro _
  exact Al ⟨⟨A,n,c⟩,ws',rfl,hs.trans ho.sub,ho.rd,fun i hi=>(hw i hi).sub ho.sub⟩
end
structure Dy (N:Ngt):Prop where
 t:0<=N.tick
 r:∀ x∈N.rides,x.on=[]/\x.queue=[]/\0<=x.line
 p:∀ x∈N.parties,x.g.came<N.tick/\x.comes=-1
theorem Dy.bo {N:Ngt} (h:Dy N) (i:Int):(N.bo i).on=[]/\(N.bo i).queue=[]:=by
 unfold Ngt.bo
 by_cases hi:i.toNat<N.rides.length
 ·have e:N.rides.getD i.toNat Bth.d=N.rides[i.toNat]:=by simp [List.getD,hi]
  rw [e]
  have:=h.r _ (List.getElem_mem hi)
  exact ⟨this.1,this.2.1⟩
 ·have e:N.rides.getD i.toNat Bth.d=Bth.d:=by simp [List.getD,hi]
  rw [e]
  exact ⟨rfl,rfl⟩
theorem Dy.pa {N:Ngt} (h:Dy N) {g:Int} (hg:g.toNat<N.parties.length):(N.pa g).g.came<N.tick/\(N.pa g).comes=-1:=by
 unfold Ngt.pa
 have e:N.parties.getD g.toNat Pty.d=N.parties[g.toNat]:=by simp [List.getD,hg]
 rw [e]
 exact h.p _ (List.getElem_mem hg)
theorem Dy.end_ {N:Ngt} (h:Dy N):N.end_=N:=by
 have e1:∀ x∈N.rides,x.ends N.tick=false:=fun x hx=>by
  unfold Bth.ends
  rw [(h.r x hx).1]
  rfl
 have e2:N.offK N.rides.length=[]:=by
  unfold Ngt.offK
  rw [List.take_length,List.flatMap_eq_nil_iff]
  intro x hx
  unfold Bth.off
  rw [e1 x hx,if_neg (by simp)]
 have e3:N.endK N.rides.length=N:=by
  unfold Ngt.endK
  rw [List.take_length,List.drop_length,List.append_nil]
  have:N.rides.map (Bth.end1 N.tick)=N.rides:=by
   rw [List.map_congr_left (g:=id)]
   ·exact List.map_id _
   ·intro x hx
    unfold Bth.end1
    rw [e1 x hx,if_neg (by simp)]
    rfl
  rw [this]
 unfold Ngt.end_ Ngt.off
 rw [e2,e3]
 rfl
theorem Dy.come {N:Ngt} (h:Dy N):N.come=N:=by
 have eA:(Bn N.parties.length).filter N.isA=[]:=by
  rw [List.filter_eq_nil_iff]
  intro g hg
  obtain ⟨g0,g1⟩:=BN.1 hg
  have:=(h.pa (g:=g) (by omega)).1
  unfold Ngt.isA
  rw [decide_eq_true_eq]
  omega
 have eB:(Bn N.parties.length).filter N.isB=[]:=by
  rw [List.filter_eq_nil_iff]
  intro g hg
  obtain ⟨g0,g1⟩:=BN.1 hg
  have:=(h.pa (g:=g) (by omega)).2
  have:=h.t
  unfold Ngt.isB
  rw [decide_eq_true_eq]
  omega
 unfold Ngt.come
 rw [N.foldA,eA]
 show (List.range N.parties.length).foldl Ngt.comeB N=N
 rw [N.foldB,eB]
 rfl
theorem Dy.leave {N:Ngt} (h:Dy N):N.leave=N:=by
 have e2:N.goneK N.rides.length=[]:=by
  unfold Ngt.goneK
  rw [List.take_length,List.flatMap_eq_nil_iff]
  intro x hx
  rw [(h.r x hx).2.1]
  rfl
 have e3:N.leaveK N.rides.length=N:=by
  unfold Ngt.leaveK
  rw [List.take_length,List.drop_length,List.append_nil]
  have:N.rides.map N.stay1=N.rides:=by
   rw [List.map_congr_left (g:=id)]
   ·exact List.map_id _
   ·intro x hx
    unfold Ngt.stay1
    have:=(h.r x hx).2.1
    obtain ⟨b,on,begun,ended,queue,takes,line⟩:=x
    simp only at this
    subst this
    rfl
  rw [this]
 unfold Ngt.leave Ngt.gone
 rw [e2,e3]
 rfl
theorem Dy.begins {N:Ngt} (h:Dy N):∀ k,N.begins k=N
 | 0=>rfl
 | k+1=>by
  have e1:N.begins (k+1)=(N.begins k).begin k:=DB (f:=fun (M:Ngt) (i:Nat)=>M.begin i) (b:=N) (k:=k)
  rw [e1,h.begins k]
  unfold Ngt.begin
  rw [if_pos]
  unfold Ngt.shut
  rw [(h.bo k).2]
  simp
theorem Dy.tick1 {N:Ngt} (h:Dy N):N.tick1=N.setT (N.tick+1):=by
 have e1:N.rest=N:=by unfold Ngt.rest;rw [h.end_,h.come,h.leave]
 rw [N.tick1_eq,e1,h.begins]
 congr 1
 unfold Ngt.lineK
 rw [List.take_length,List.drop_length,List.append_nil]
 have:N.rides.map N.line1=N.rides:=by
  rw [List.map_congr_left (g:=id)]
  ·exact List.map_id _
  ·intro x hx
   obtain ⟨_,h2,h3⟩:=h.r x hx
   obtain ⟨b,on,begun,ended,queue,takes,line⟩:=x
   simp only at h2 h3
   subst h2
   have hl:(if line<(0:Int) then (0:Int) else line)=line:=if_neg (by omega)
   show (⟨b,on,begun,ended,[],takes,if line<(0:Int) then (0:Int) else line⟩:Bth)=_
   rw [hl]
   rfl
 rw [this]
theorem Dy.next {N:Ngt} (h:Dy N):Dy (N.setT (N.tick+1)):=by
 have ht:=h.t
 exact ⟨by show 0<=N.tick+1;omega,h.r,fun x hx=>⟨by have:=(h.p x hx).1;show x.g.came<N.tick+1;omega,(h.p x hx).2⟩⟩
theorem Dy.run {w:Int} {B:List BthG} {G:List Grp} {k:Nat} (h:Dy (Ngt.run w B G k)):∀ j,(Ngt.run w B G (k+j)).rides=(Ngt.run w B G k).rides/\(Ngt.run w B G (k+j)).parties=(Ngt.run w B G k).parties/\Dy (Ngt.run w B G (k+j))
 | 0=>⟨rfl,rfl,h⟩
 | j+1=>by
  obtain ⟨h1,h2,h3⟩:=h.run j
  have e:Ngt.run w B G (k+(j+1))=(Ngt.run w B G (k+j)).setT ((Ngt.run w B G (k+j)).tick+1):=h3.tick1
  rw [e]
  exact ⟨h1,h2,h3.next⟩
def exB:List BthG:=[⟨4,2,3,1,false⟩,⟨2,5,2,0,false⟩]
def exG:List Grp:=[⟨0,3,20,[0,1],100⟩,⟨0,2,30,[0,1],100⟩]
theorem Ngt.last_parties (N:Ngt):N.last.parties=N.parties:=rfl
theorem Ngt.last_rides (N:Ngt):N.last.rides=N.rides:=rfl
theorem KC (w:Int) (B:List BthG) (G:List Grp):(Ngt.played w B G).parties=(Ngt.run w B G 4001).parties:=Ngt.last_parties _
theorem R0 (w:Int) (B:List BthG) (G:List Grp):(Ngt.played w B G).rides=(Ngt.run w B G 4001).rides:=Ngt.last_rides _
theorem Ak.less {e:TypeId} {ss:List Sh} {σ s5 s9:Hp} {A:aA} {n c:Nat} {xs:List (TyR ss)} (h:Ak e ss s5 A n c xs s9) (hs:Hp.Sub σ s5):∃ σ',Ak e ss σ A n c xs σ'/\Hp.Sub σ' s9:=
 Ay.less (R:=fun σ σ'=>Ak e ss σ A n c xs σ') Ay.own h hs
theorem Ngt.last_stat {N:Ngt} {nr:Nat} {G:List Grp} (h:N.stat nr G):N.last.stat nr G:=h
theorem OX (w:Int) (B:List BthG) (G:List Grp):(Ngt.played w B G).stat B.length G:=Ngt.last_stat (Ngt.run_stat _)
section
variable {σ:Hp} {w:Int} {r l:SL} {B:List BthG} {ws:Nat->SL} {G:List Grp}
def ofL (c:Int) (xs:List Int):List Int:=if c=0 then xs else []
theorem UP {c:Int} {xs:List Int} (h:c=0):ofL c xs=xs:=if_pos h
theorem Y7 {c:Int} {xs:List Int} (h:¬ c=0):ofL c xs=[]:=if_neg h
def OfI (σ:Hp) (c:Int) (xs:List Int):aB:=fun v σ'=>∃ s:SL,v=.tuple #[s.v,aD c]/\Ak 3 aM σ s.A s.n s.c (ofL c xs) σ'
theorem UI {fe fn:Value} {f:Pty->Int} {N:Ngt} (hr:EvR σ r B l ws G) (hP:Ngt.played w B G=N)
  (hE:∀ (τ s1:Hp) (W:NW) (N:Ngt),Ar W s1 τ N->cl prog fe #[.pointer (some ⟨W.nb,0,none⟩)] τ fun v t'=>v=W.p.v/\t'=τ)
  (hN:∀ (τ s1:Hp) (W:NW) (N:Ngt) (g:Int),Ar W s1 τ N->g.toNat<N.parties.length->cl prog fn #[.pointer (some ⟨W.pb g,0,none⟩)] τ fun v t'=>v=aD (f (N.pa g))/\t'=τ):
  Af prog 93 #[.agg #[r.v,aD w],l.v,fe,fn] σ (OfI σ (Fs w B G) (N.parties.map f)):=by
 have hst:=OX w B G
 rw [hP] at hst
 apply Gu
 unfold Cc
 refine clI (aV 68) (Sk hr) (BQ (fun h=>Al ⟨⟨none,0,0⟩,rfl,?_⟩) (fun h=>?_))
 ·exact (congrArg (fun z:List Int=>Ak 3 aM σ none 0 0 z σ) (Y7 h)).mpr (Ak.nil ..)
 have hv:=Cu h
 refine Ah fun J6 h6=>?_
 refine AW (aV 105) (UT hr hv) ?_
 rintro v s11 ⟨W,s1,rfl,hs1,hS,hn⟩
 rw [hP] at hn
 refine ⟨_,rfl,?_⟩
 refine B7.mono (hE s11 s1 W N hn) ?_
 rintro _ t2 ⟨rfl,e2⟩
 rw [e2]
 clear e2 t2
 have hpl:W.p.n=N.parties.length:=by rw [hS.p.1,← hS.lp.trans hst.len.symm];exact List.length_map ..
 have hvn:=hv.n
 have hpn:=hst.len
 refine ⟨_,_,_,rfl,⟨fun m xs i τ=>∃ k:Nat,m=N.parties.length-k/\xs=(N.parties.take k).map f/\i=k/\k<=N.parties.length/\τ=s11,⟨_,Fi.2 ⟨0,rfl,rfl,rfl,by omega,rfl⟩⟩,?_⟩⟩
 rintro m xs i τ ⟨k,rfl,rfl,rfl,hk,rfl⟩ _
 refine AF (fun hlt=>?_) (fun hlt=>?_)
 ·have hkl:k<N.parties.length:=by omega
  refine (hS.sub hn.sub).pix hst (by omega) (by simpa using hkl) ?_
  refine B7.mono (hN τ s1 W N k hn (by simpa using hkl)) ?_
  rintro _ _ ⟨rfl,rfl⟩
  refine ⟨_,rfl,AY (by simp;omega) (AS (by omega) (Be (N.parties.length-(k+1)) (by omega) ⟨k+1,rfl,?_,by omega,by omega,rfl⟩))⟩
  rw [List.take_succ_eq_append_getElem hkl,List.map_append]
  have:N.pa k=N.parties[k]:=by simp [Ngt.pa,List.getD,hkl]
  rw [this]
  rfl
 ·have:k=N.parties.length:=by omega
  subst this
  rw [List.take_length,h6]
  intro _
  intro A8 l8 c8 s9 o9
  obtain ⟨σ',o1,o2⟩:=o9.less (hs1.trans hn.sub)
  refine Bm o2 ⟨⟨A8,l8,c8⟩,by rw [h];rfl,?_⟩
  exact (congrArg (fun z:List Int=>Ak 3 aM σ A8 l8 c8 z σ') (UP h)).mpr o1
theorem Wy (τ s1:Hp) (W:NW) (N:Ngt) (h:Ar W s1 τ N):aC 94 #[.pointer (some ⟨W.nb,0,none⟩)] τ fun v t'=>v=W.p.v/\t'=τ:=by
 refine B7.func (aV 94) ?_
 refine Mg _ _ _ ?_
 unfold FG
 obtain ⟨v,hnb,_⟩:=h.nblk
 exact AG (Bu hnb rfl (Al ⟨rfl,rfl⟩))
theorem Aau (τ s1:Hp) (W:NW) (N:Ngt) (g:Int) (h:Ar W s1 τ N) (hg:g.toNat<N.parties.length):aC 95 #[.pointer (some ⟨W.pb g,0,none⟩)] τ fun v t'=>v=aD (N.pa g).home/\t'=τ:=by
 refine B7.func (aV 95) ?_
 refine MU _ _ _ ?_
 unfold Gr
 exact AG (Bh (h.pblk hg) rfl (Al ⟨rfl,rfl⟩))
theorem Yk (hr:EvR σ r B l ws G):Af prog 50 #[.agg #[r.v,aD w],l.v] σ (OfI σ (Fs w B G) ((Ngt.played w B G).parties.map Pty.home)):=by
 apply Pq
 unfold Jv
 refine AW (aV 93) (UI hr rfl Wy Aau) ?_
 rintro v σ2 ⟨s,rfl,ho⟩
 exact ⟨_,_,_,_,rfl,Al ⟨s,rfl,ho⟩⟩
theorem Wd:Af prog 67 #[] σ fun v σ'=>∃ (r l:SL) (ws:Nat->SL),v=.tuple #[.agg #[r.v,aD 1],l.v]/\Hp.Sub σ σ'/\EvR σ' r exB l ws exG:=by
 refine MT _ _ ?_
 unfold FK
 intro A1 l1 c1 σ2 o2 A3 l3 c3 s4 o4 A5 l5 c5 s6 o6 A7 l7 c7 s8 o8
 refine Al ⟨⟨A1,l1,c1⟩,⟨A7,l7,c7⟩,fun i=>if i=0 then ⟨A3,l3,c3⟩ else ⟨A5,l5,c5⟩,rfl,o2.sub.trans (o4.sub.trans (o6.sub.trans o8.sub)),⟨RdS.sub o2.rd (o4.sub.trans (o6.sub.trans o8.sub)),o8.rd,fun i hi=>?_⟩⟩
 match i,hi with
 | 0,_=>exact RdS.sub o4.rd (o6.sub.trans o8.sub)
 | 1,_=>exact RdS.sub o6.rd o8.sub
end
end Go.Proofs.YtoelhdjloaknbaaGreat
