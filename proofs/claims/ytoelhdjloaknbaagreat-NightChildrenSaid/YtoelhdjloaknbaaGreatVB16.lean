/- Trimmed by wip/trim.py to what this claim rests on. -/
import Derived.Test.YtoelhdjloaknbaaGreatVQb10
namespace Go.Proofs.YtoelhdjloaknbaaGreat
open Go.RowKit
def okB (b:BthG):Bool:=decide (1<=b.seats/\b.seats<=40)&&(decide (0<=b.price/\b.price<=100)&&(decide (1<=b.cycle/\b.cycle<=100)&&decide (0<=b.pause/\b.pause<=100)))
def M6 (w:Int) (B:List BthG):Bool:=decide (B.length<=8)&&(decide (0<=w/\w<=100)&&(List.range B.length).all fun k=>okB (bd B k))
def okW (m:Nat) (x:Int):Bool:=decide (0<=x/\x<=(m:Int)-1)
def okG (m:Nat) (g:Grp):Bool:=decide (0<=g.came/\g.came<=2000)&&(decide (1<=g.size/\g.size<=40)&&(decide (0<=g.tokens/\g.tokens<=10000)&&(decide (0<=g.patience/\g.patience<=2000)&&(decide (g.wants.length<=10)&&(List.range g.wants.length).all fun j=>okW m (gt g.wants j)))))
def J2 (w:Int) (B:List BthG) (G:List Grp):Int:=if M6 w B=false then 70 else if 60<G.length then 71 else if ((List.range G.length).all fun k=>okG B.length (gd G k))=false then 71 else 0
theorem Ie {n:Nat} {p:Nat->Bool} (h:((List.range n).all p)=true) {k:Nat} (hk:k<n):p k=true:=List.all_eq_true.1 h k (List.mem_range.2 hk)
theorem KG {w:Int} {B:List BthG} {G:List Grp} (h:J2 w B G=0):Val w B G:=by
 unfold J2 at h
 split at h
 ·omega
 ·rename_i h1
  split at h
  ·omega
  ·rename_i h2
   split at h
   ·omega
   ·rename_i h3
    have h1:M6 w B=true:=by simpa using h1
    have h3:((List.range G.length).all fun k=>okG B.length (gd G k))=true:=by simpa using h3
    unfold M6 at h1
    rw [Bool.and_eq_true,Bool.and_eq_true,decide_eq_true_eq,decide_eq_true_eq] at h1
    obtain ⟨a1,a2,a3⟩:=h1
    refine ⟨a2,a1,fun b hb=>?_,by omega,fun g hg=>?_⟩
    ·obtain ⟨i,hi,rfl⟩:=List.getElem_of_mem hb
     have:=Ie a3 hi
     have e1:bd B i=B[i]:=by unfold bd;simp [List.getD,hi]
     rw [e1] at this
     unfold okB at this
     simp only [Bool.and_eq_true,decide_eq_true_eq] at this
     exact this
    ·obtain ⟨i,hi,rfl⟩:=List.getElem_of_mem hg
     have:=Ie h3 hi
     have e1:gd G i=G[i]:=by unfold gd;simp [List.getD,hi]
     rw [e1] at this
     unfold okG at this
     simp only [Bool.and_eq_true,decide_eq_true_eq] at this
     obtain ⟨b1,b2,b3,b4,b5,b6⟩:=this
     refine ⟨b1,b2,b3,b5,b4,fun x hx=>?_⟩
     obtain ⟨j,hj,rfl⟩:=List.getElem_of_mem hx
     have:=Ie b6 hj
     rw [Fp hj] at this
     unfold okW at this
     have:=of_decide_eq_true this
     omega
theorem Xn {n:Nat} {p:Nat->Bool}:(List.range (n+1)).all p=((List.range n).all p&&p n):=by
 rw [List.range_succ,List.all_append]
 simp
theorem XL {n:Nat} {p:Nat->Bool}:(List.range (n+1)).any p=((List.range n).any p||p n):=by
 rw [List.range_succ,List.any_append]
 simp
theorem PD {n k:Nat} {p:Nat->Bool} (hk:k<n) (h:p k=true):(List.range n).any p=true:=List.any_eq_true.2 ⟨k,List.mem_range.2 hk,h⟩
theorem NU {n:Nat} {p:Nat->Bool} (h:∀ k,k<n->p k=false):(List.range n).any p=false:=by
 cases e:(List.range n).any p with
 | false=>rfl
 | true=>
  obtain ⟨k,hk,hp⟩:=List.any_eq_true.1 e
  rw [h k (List.mem_range.1 hk)] at hp
  cases hp
theorem Ks {n:Nat} {p:Nat->Bool}:(List.range n).any (fun k=>!p k)=!(List.range n).all p:=by
 induction n with
 | zero=>rfl
 | succ n ih=>rw [XL,Xn,ih];cases (List.range n).all p<;>cases p n<;>rfl
section
variable {σ:Hp} {w:Int} {r l:SL} {B:List BthG} {ws:Nat->SL} {G:List Grp}
theorem XI {n lo hi:Int}:Ae Tryz.prog Ky #[.int .i64 n,.int .i64 lo,.int .i64 hi] σ fun v σ'=>v=.bool (decide (lo<=n/\n<=hi))/\σ'=σ:=by
 refine M4 _ _ _ _ _ ?_
 unfold Gl
 refine AD (fun h=>Al ⟨?_,rfl⟩) (fun h=>Al ⟨?_,rfl⟩)
 ·rw [decide_eq_decide.2 (show n<=hi↔lo<=n/\n<=hi from ⟨fun h'=>⟨h,h'⟩,fun h'=>h'.2⟩)]
 ·rw [decide_eq_false fun h'=>h h'.1]
theorem Qu {n lo hi:Int} {K:Bool->Hp->Prop} (h:K (decide (lo<=n/\n<=hi)) σ):cl Tryz.prog (.func (.func Ky) #[] #[]) #[.int .i64 n,.int .i64 lo,.int .i64 hi] σ fun v σ'=>∃ t:Bool,(v=.bool t/\K t σ'):=clB KR XI h
theorem SG {A:Option Addr} {n c:Nat} {xs:List Int} {f:Value} {p:Nat->Bool} (hx:RdS [.int .i64] σ A n xs) (hl:xs.length<=4294967296)
  (hf:∀ k,k<xs.length->cl Tryz.prog f #[.int .i64 (gt xs k)] σ fun v σ'=>v=.bool (p k)/\σ'=σ):
  Ae Tryz.prog Cf #[.slice A n c,f] σ fun v σ'=>∃ j:Int,v=.int .i64 j/\decide (0<=j)=(List.range xs.length).any p/\σ'=σ:=by
 refine BX _ _ _ _ _ _ ?_
 unfold Bn
 have hn:=hx.lenI
 refine Af fun J3 h3=>?_
 refine ⟨fun m i τ=>∃ k:Nat,m=xs.length-k/\i=k/\k<=xs.length/\τ=σ/\∀ j,j<k->p j=false,⟨_,0,rfl,rfl,by omega,rfl,fun j h=>by omega⟩,?_⟩
 rintro m i τ ⟨k,rfl,rfl,hk,rfl,hj⟩ _
 refine AD (fun hlt=>?_) (fun hlt=>?_)
 ·have hkl:k<xs.length:=by omega
  refine Io hx (by omega) (by omega) (BO.mono (hf k hkl) ?_)
  rintro _ _ ⟨rfl,rfl⟩
  refine ⟨_,rfl,CW (fun hp=>Al ⟨k,rfl,?_,rfl⟩) (fun hp=>AP (by omega) (AW _ (by omega) ⟨k+1,rfl,by omega,by omega,rfl,fun j hjk=>?_⟩))⟩
  ·rw [PD hkl hp,decide_eq_true (by omega)]
  ·rcases Nat.lt_or_ge j k with h1 | h1
   ·exact hj j h1
   ·have:j=k:=by omega
    subst this;exact hp
 ·have:k=xs.length:=by omega
  subst this
  rw [h3]
  intro _
  refine Al ⟨-1,rfl,?_,rfl⟩
  rw [NU fun j h=>hj j h]
  rfl
theorem PT {A:Option Addr} {n c:Nat} {xs:List Int} {f:Value} {p:Nat->Bool} (hx:RdS [.int .i64] σ A n xs) (hl:xs.length<=4294967296)
  (hf:∀ k,k<xs.length->cl Tryz.prog f #[.int .i64 (gt xs k)] σ fun v σ'=>v=.bool (p k)/\σ'=σ):
  Ae Tryz.prog C7 #[.slice A n c,f] σ fun v σ'=>v=.bool ((List.range xs.length).any p)/\σ'=σ:=by
 refine Ck _ _ _ _ _ _ ?_
 unfold Bv
 refine AU BK (SG hx hl hf) ?_
 rintro _ _ ⟨j,rfl,hj,rfl⟩
 exact ⟨_,rfl,Al ⟨by rw [hj],rfl⟩⟩
theorem Ob {f:Value} {p:Nat->Bool} (hr:EvR σ r B l ws G) (hl:B.length<=4294967296)
  (hf:∀ k,(hk:k<B.length)->cl Tryz.prog f #[.agg #[.int .i64 B[k].seats,.int .i64 B[k].price,.int .i64 B[k].cycle,.int .i64 B[k].pause,.bool B[k].fill]] σ fun v σ'=>v=.bool (p k)/\σ'=σ):
  Ae Tryz.prog ED #[r.v,f] σ fun v σ'=>v=.bool ((List.range B.length).any p)/\σ'=σ:=by
 refine DR _ _ _ _ _ _ ?_
 unfold Bs
 have hn:=hr.lenR
 have:Ae Tryz.prog Fy #[.slice r.A r.n r.c,f] σ fun v σ'=>∃ j:Int,v=.int .i64 j/\decide (0<=j)=(List.range B.length).any p/\σ'=σ:=by
  refine EI _ _ _ _ _ _ ?_
  unfold BL
  refine Af fun J3 h3=>?_
  refine ⟨fun m i τ=>∃ k:Nat,m=B.length-k/\i=k/\k<=B.length/\τ=σ/\∀ j,j<k->p j=false,⟨_,0,rfl,rfl,by omega,rfl,fun j h=>by omega⟩,?_⟩
  rintro m i τ ⟨k,rfl,rfl,hk,rfl,hj⟩ _
  refine AD (fun hlt=>?_) (fun hlt=>?_)
  ·have hkl:k<B.length:=by omega
   refine hr.ride hkl fun b o c0 c1 c2 c3 c4=>?_
   refine ⟨_,c0,_,c1,_,c2,_,c3,_,c4,BO.mono (hf k hkl) ?_⟩
   rintro _ _ ⟨rfl,rfl⟩
   refine ⟨_,rfl,CW (fun hp=>Al ⟨k,rfl,?_,rfl⟩) (fun hp=>AP (by omega) (AW _ (by omega) ⟨k+1,rfl,by omega,by omega,rfl,fun j hjk=>?_⟩))⟩
   ·rw [PD hkl hp,decide_eq_true (by omega)]
   ·rcases Nat.lt_or_ge j k with h1 | h1
    ·exact hj j h1
    ·have:j=k:=by omega
     subst this;exact hp
  ·have:k=B.length:=by omega
   subst this
   rw [h3]
   intro _
   refine Al ⟨-1,rfl,?_,rfl⟩
   rw [NU fun j h=>hj j h]
   rfl
 refine AU DB this ?_
 rintro _ _ ⟨j,rfl,hj,rfl⟩
 exact ⟨_,rfl,Al ⟨by rw [hj],rfl⟩⟩
theorem OE {f:Value} {p:Nat->Bool} (hr:EvR σ r B l ws G) (hl:G.length<=4294967296)
  (hf:∀ k,(hk:k<G.length)->cl Tryz.prog f #[.agg #[.int .i64 G[k].came,.int .i64 G[k].size,.int .i64 G[k].tokens,(ws k).v,.int .i64 G[k].patience]] σ fun v σ'=>v=.bool (p k)/\σ'=σ):
  Ae Tryz.prog EE #[l.v,f] σ fun v σ'=>v=.bool ((List.range G.length).any p)/\σ'=σ:=by
 refine DT _ _ _ _ _ _ ?_
 unfold Bq
 have hn:=hr.lenL
 have:Ae Tryz.prog Fx #[.slice l.A l.n l.c,f] σ fun v σ'=>∃ j:Int,v=.int .i64 j/\decide (0<=j)=(List.range G.length).any p/\σ'=σ:=by
  refine EG _ _ _ _ _ _ ?_
  unfold BN
  refine Af fun J3 h3=>?_
  refine ⟨fun m i τ=>∃ k:Nat,m=G.length-k/\i=k/\k<=G.length/\τ=σ/\∀ j,j<k->p j=false,⟨_,0,rfl,rfl,by omega,rfl,fun j h=>by omega⟩,?_⟩
  rintro m i τ ⟨k,rfl,rfl,hk,rfl,hj⟩ _
  refine AD (fun hlt=>?_) (fun hlt=>?_)
  ·have hkl:k<G.length:=by omega
   refine hr.group hkl fun b o c0 c1 c2 c3 c4=>?_
   refine ⟨_,c0,_,c1,_,c2,_,_,_,c3,_,c4,BO.mono (hf k hkl) ?_⟩
   rintro _ _ ⟨rfl,rfl⟩
   refine ⟨_,rfl,CW (fun hp=>Al ⟨k,rfl,?_,rfl⟩) (fun hp=>AP (by omega) (AW _ (by omega) ⟨k+1,rfl,by omega,by omega,rfl,fun j hjk=>?_⟩))⟩
   ·rw [PD hkl hp,decide_eq_true (by omega)]
   ·rcases Nat.lt_or_ge j k with h1 | h1
    ·exact hj j h1
    ·have:j=k:=by omega
     subst this;exact hp
  ·have:k=G.length:=by omega
   subst this
   rw [h3]
   intro _
   refine Al ⟨-1,rfl,?_,rfl⟩
   rw [NU fun j h=>hj j h]
   rfl
 refine AU DP this ?_
 rintro _ _ ⟨j,rfl,hj,rfl⟩
 exact ⟨_,rfl,Al ⟨by rw [hj],rfl⟩⟩
theorem SB {b:BthG}:Ae Tryz.prog MP #[.agg #[.int .i64 b.seats,.int .i64 b.price,.int .i64 b.cycle,.int .i64 b.pause,.bool b.fill]] σ fun v σ'=>v=.bool (!okB b)/\σ'=σ:=by
 refine KL _ _ _ _ _ _ _ ?_
 unfold Ek
 unfold okB
 refine Qu (BR (fun h=>Al ⟨by rw [decide_eq_false h];rfl,rfl⟩) (fun h1=>Qu (BR (fun h=>Al ⟨by rw [decide_eq_true h1,decide_eq_false h];rfl,rfl⟩) (fun h2=>Qu (BR (fun h=>Al ⟨by rw [decide_eq_true h1,decide_eq_true h2,decide_eq_false h];rfl,rfl⟩) (fun h3=>Qu (Al ⟨by rw [decide_eq_true h1,decide_eq_true h2,decide_eq_true h3];rfl,rfl⟩)))))))
theorem Vh (hr:EvR σ r B l ws G):Ae Tryz.prog Pa #[.agg #[r.v,.int .i64 w]] σ fun v σ'=>v=.int .i64 (if M6 w B=true then 0 else 70)/\σ'=σ:=by
 refine Mg _ _ _ _ _ _ ?_
 unfold FA
 have hn:=hr.lenR
 refine Af fun J3 h3=>Af fun J6 h6=>?_
 have k6:∀ t,t=!M6 w B->J6 t σ:=by
  rintro t rfl
  rw [h6]
  intro _
  refine BJ (fun h=>Al ⟨by rw [h];rfl,rfl⟩) (fun h=>?_)
  rw [h3]
  intro _
  exact Al ⟨by rw [h];rfl,rfl⟩
 refine AD (fun h=>k6 _ ?_) (fun h=>Qu (BR (fun h2=>k6 _ ?_) (fun h2=>clB C2 (Ob (p:=fun k=>!okB (bd B k)) hr (by omega) fun k hk=>?_) (k6 _ ?_))))
 ·unfold M6;rw [decide_eq_false (by omega)];rfl
 ·unfold M6;rw [decide_eq_false h2,Bool.false_and,Bool.and_false];rfl
 ·have e1:bd B k=B[k]:=by unfold bd;simp [List.getD,hk]
  rw [e1]
  exact AU Iy SB fun v σ' h=>h
 ·unfold M6
  rw [Ks,decide_eq_true (show B.length<=8 by omega),decide_eq_true h2]
  rfl
theorem V5 {p:Option Addr} {g:Grp} {s:SL} (hp:∃ b rw,p=some ⟨b,0,none⟩/\σ b=some (.cells #[r.v,.int .i64 w] 24 (0,0),rw)) (hm:r.n<=1000000) (hw:RdS [.int .i64] σ s.A s.n g.wants):
  Ae Tryz.prog O4 #[.agg #[.int .i64 g.came,.int .i64 g.size,.int .i64 g.tokens,s.v,.int .i64 g.patience],.pointer p] σ fun v σ'=>v=.bool (!okG r.n g)/\σ'=σ:=by
 refine LY _ _ _ _ _ _ _ _ _ _ ?_
 unfold Ft
 unfold okG
 have hwl:=hw.lenI
 refine Qu (BR (fun h=>Al ⟨by rw [decide_eq_false h];rfl,rfl⟩) (fun h1=>Qu (BR (fun h=>Al ⟨by rw [decide_eq_true h1,decide_eq_false h];rfl,rfl⟩) (fun h2=>Qu (BR (fun h=>Al ⟨by rw [decide_eq_true h1,decide_eq_true h2,decide_eq_false h];rfl,rfl⟩) (fun h3=>Qu (BR (fun h=>Al ⟨by rw [decide_eq_true h1,decide_eq_true h2,decide_eq_true h3,decide_eq_false h];rfl,rfl⟩) (fun h4=>?_))))))))
 rw [decide_eq_true h1,decide_eq_true h2,decide_eq_true h3,decide_eq_true h4]
 refine AD (fun h5=>Al ⟨?_,rfl⟩) (fun h5=>clB AQ (PT (p:=fun j=>!okW r.n (gt g.wants j)) hw (by omega) fun k hk=>?_) (Al ⟨?_,rfl⟩))
 ·rw [decide_eq_false (show ¬ g.wants.length<=10 by omega)];rfl
 ·obtain ⟨b,rw',rfl,hb⟩:=hp
  refine BO.func H9 ?_
  refine KT _ _ _ _ ?_
  unfold Ed
  refine AA (Bm hb rfl (AP (by omega) (Qu (Al ⟨rfl,rfl⟩))))
 ·rw [Ks,decide_eq_true (show g.wants.length<=10 by omega)];rfl
theorem RF (hr:EvR σ r B l ws G):Ae Tryz.prog LT #[.agg #[r.v,.int .i64 w],l.v] σ fun v σ'=>v=.int .i64 (J2 w B G)/\σ'=σ:=by
 refine NR _ _ _ _ _ _ _ _ _ ?_
 unfold Ho
 have hn:=hr.lenR
 have hl:=hr.lenL
 unfold J2
 refine clI JT (Vh hr) (BR (fun h=>?_) (fun h=>?_))
 ·have h1:¬ M6 w B=true:=fun h'=>h (if_pos h')
  have h2:M6 w B=false:=by simpa using h1
  rw [if_neg h1,if_pos h2]
  exact Al ⟨rfl,rfl⟩
 ·have h1:M6 w B=true:=by
   by_cases c:M6 w B=true
   ·exact c
   ·rw [if_neg c] at h;omega
  rw [h1,if_neg (show ¬ true=false by simp)]
  have hB:B.length<=8:=by
   unfold M6 at h1
   rw [Bool.and_eq_true,decide_eq_true_eq] at h1
   exact h1.1
  intro b4 n4
  have hs:=Hp.Sub.ins (.cells #[r.v,.int .i64 w] 24 (0,0)) n4
  have hr2:=hr.sub hs
  have hb4:(σ.ins b4 (.cells #[r.v,.int .i64 w] 24 (0,0))) b4=some (.cells #[r.v,.int .i64 w] 24 (0,0),true):=Hp.ins_same ..
  change cut _ _
  have heq:(σ.ins b4 (.cells #[.slice r.A r.n r.c,.int .i64 w] 24))=σ.ins b4 (.cells #[r.v,.int .i64 w] 24 (0,0)):=rfl
  rw [heq]
  generalize σ.ins b4 (.cells #[r.v,.int .i64 w] 24 (0,0))=σ5 at *
  refine Af fun J8 h8=>Af fun J11 h11=>?_
  have k11:∀ t,t=(decide (60<G.length) || !(List.range G.length).all fun k=>okG B.length (gd G k))->J11 t σ5:=by
   rintro t rfl
   rw [h11]
   intro _
   refine CW (fun ht=>Bl hs ⟨?_,rfl⟩) (fun ht=>?_)
   ·by_cases c:60<G.length
    ·rw [if_pos c]
    ·rw [decide_eq_false c,Bool.false_or,Bool.not_eq_true'] at ht
     rw [if_neg c,if_pos ht]
   ·rw [Bool.or_eq_false_iff,Bool.not_eq_false'] at ht
    have c:=of_decide_eq_false ht.1
    rw [h8]
    intro _
    refine Bl hs ⟨?_,rfl⟩
    rw [if_neg c,ht.2,if_neg (by simp)]
  refine AD (fun c=>k11 _ ?_) (fun c=>clB C5 (OE (p:=fun k=>!okG B.length (gd G k)) hr2 (by omega) fun k hk=>?_) (k11 _ ?_))
  ·rw [decide_eq_true (show 60<G.length by omega)];rfl
  ·have e1:gd G k=G[k]:=by unfold gd;simp [List.getD,hk]
   rw [e1]
   refine BO.func Kd ?_
   have:=V5 (σ:=σ5) (w:=w) (r:=r) (g:=G[k]) (s:=ws k) ⟨b4,true,rfl,hb4⟩ (by omega) (hr2.w k hk)
   rw [hn] at this
   exact this
  ·rw [Ks,decide_eq_false (show ¬ 60<G.length by omega)];rfl
end
end Go.Proofs.YtoelhdjloaknbaaGreat
namespace Go.Proofs.YtoelhdjloaknbaaGreat
open Go.RowKit
section
variable {σ:Hp} {w:Int} {r l:SL} {B:List BthG} {ws:Nat->SL} {G:List Grp}
end
end Go.Proofs.YtoelhdjloaknbaaGreat
namespace Go.Proofs.YtoelhdjloaknbaaGreat
open Go.RowKit
structure Du (N:Ngt):Prop where
 t:0<=N.tick
 r:∀ x∈N.rides,x.on=[]/\x.queue=[]/\0<=x.line
 p:∀ x∈N.parties,x.g.came<N.tick/\x.comes=-1
theorem Du.bo {N:Ngt} (h:Du N) (i:Int):(N.bo i).on=[]/\(N.bo i).queue=[]:=by
 unfold Ngt.bo
 by_cases hi:i.toNat<N.rides.length
 ·have e:N.rides.getD i.toNat Bth.d=N.rides[i.toNat]:=by simp [List.getD,hi]
  rw [e]
  have:=h.r _ (List.getElem_mem hi)
  exact ⟨this.1,this.2.1⟩
 ·have e:N.rides.getD i.toNat Bth.d=Bth.d:=by simp [List.getD,hi]
  rw [e]
  exact ⟨rfl,rfl⟩
theorem Du.pa {N:Ngt} (h:Du N) {g:Int} (hg:g.toNat<N.parties.length):(N.pa g).g.came<N.tick/\(N.pa g).comes=-1:=by
 unfold Ngt.pa
 have e:N.parties.getD g.toNat Pty.d=N.parties[g.toNat]:=by simp [List.getD,hg]
 rw [e]
 exact h.p _ (List.getElem_mem hg)
theorem Du.end_ {N:Ngt} (h:Du N):N.end_=N:=by
 have e1:∀ x∈N.rides,x.ends N.tick=false:=fun x hx=>by
  unfold Bth.ends
  rw [(h.r x hx).1]
  rfl
 have e2:N.offK N.rides.length=[]:=by
  unfold Ngt.offK
  rw [List.take_length,List.flatMap_eq_nil_iff]
  intro x hx
  unfold Bth.off
  rw [e1 x hx,if_neg (by simp)]
 have e3:N.endK N.rides.length=N:=by
  unfold Ngt.endK
  rw [List.take_length,List.drop_length,List.append_nil]
  have:N.rides.map (Bth.end1 N.tick)=N.rides:=by
   rw [List.map_congr_left (g:=id)]
   ·exact List.map_id _
   ·intro x hx
    unfold Bth.end1
    rw [e1 x hx,if_neg (by simp)]
    rfl
  rw [this]
 unfold Ngt.end_ Ngt.off
 rw [e2,e3]
 rfl
theorem Du.come {N:Ngt} (h:Du N):N.come=N:=by
 have eA:(BT N.parties.length).filter N.isA=[]:=by
  rw [List.filter_eq_nil_iff]
  intro g hg
  obtain ⟨g0,g1⟩:=BE.1 hg
  have:=(h.pa (g:=g) (by omega)).1
  unfold Ngt.isA
  rw [decide_eq_true_eq]
  omega
 have eB:(BT N.parties.length).filter N.isB=[]:=by
  rw [List.filter_eq_nil_iff]
  intro g hg
  obtain ⟨g0,g1⟩:=BE.1 hg
  have:=(h.pa (g:=g) (by omega)).2
  have:=h.t
  unfold Ngt.isB
  rw [decide_eq_true_eq]
  omega
 unfold Ngt.come
 rw [N.foldA,eA]
 show (List.range N.parties.length).foldl Ngt.comeB N=N
 rw [N.foldB,eB]
 rfl
theorem Du.leave {N:Ngt} (h:Du N):N.leave=N:=by
 have e2:N.goneK N.rides.length=[]:=by
  unfold Ngt.goneK
  rw [List.take_length,List.flatMap_eq_nil_iff]
  intro x hx
  rw [(h.r x hx).2.1]
  rfl
 have e3:N.leaveK N.rides.length=N:=by
  unfold Ngt.leaveK
  rw [List.take_length,List.drop_length,List.append_nil]
  have:N.rides.map N.stay1=N.rides:=by
   rw [List.map_congr_left (g:=id)]
   ·exact List.map_id _
   ·intro x hx
    unfold Ngt.stay1
    have:=(h.r x hx).2.1
    obtain ⟨b,on,begun,ended,queue,takes,line⟩:=x
    simp only at this
    subst this
    rfl
  rw [this]
 unfold Ngt.leave Ngt.gone
 rw [e2,e3]
 rfl
theorem Du.begins {N:Ngt} (h:Du N):∀ k,N.begins k=N
 | 0=>rfl
 | k+1=>by
  have e1:N.begins (k+1)=(N.begins k).begin k:=EP (f:=fun (M:Ngt) (i:Nat)=>M.begin i) (b:=N) (k:=k)
  rw [e1,h.begins k]
  unfold Ngt.begin
  rw [if_pos]
  unfold Ngt.shut
  rw [(h.bo k).2]
  simp
theorem Du.tick1 {N:Ngt} (h:Du N):N.tick1=N.setT (N.tick+1):=by
 have e1:N.rest=N:=by unfold Ngt.rest;rw [h.end_,h.come,h.leave]
 rw [N.tick1_eq,e1,h.begins]
 congr 1
 unfold Ngt.lineK
 rw [List.take_length,List.drop_length,List.append_nil]
 have:N.rides.map N.line1=N.rides:=by
  rw [List.map_congr_left (g:=id)]
  ·exact List.map_id _
  ·intro x hx
   obtain ⟨_,h2,h3⟩:=h.r x hx
   obtain ⟨b,on,begun,ended,queue,takes,line⟩:=x
   simp only at h2 h3
   subst h2
   have hl:(if line<(0:Int) then (0:Int) else line)=line:=if_neg (by omega)
   show (⟨b,on,begun,ended,[],takes,if line<(0:Int) then (0:Int) else line⟩:Bth)=_
   rw [hl]
   rfl
 rw [this]
theorem Du.next {N:Ngt} (h:Du N):Du (N.setT (N.tick+1)):=by
 have ht:=h.t
 exact ⟨by show 0<=N.tick+1;omega,h.r,fun x hx=>⟨by have:=(h.p x hx).1;show x.g.came<N.tick+1;omega,(h.p x hx).2⟩⟩
theorem Du.run {w:Int} {B:List BthG} {G:List Grp} {k:Nat} (h:Du (Ngt.run w B G k)):∀ j,(Ngt.run w B G (k+j)).rides=(Ngt.run w B G k).rides/\(Ngt.run w B G (k+j)).parties=(Ngt.run w B G k).parties/\Du (Ngt.run w B G (k+j))
 | 0=>⟨rfl,rfl,h⟩
 | j+1=>by
  obtain ⟨h1,h2,h3⟩:=h.run j
  have e:Ngt.run w B G (k+(j+1))=(Ngt.run w B G (k+j)).setT ((Ngt.run w B G (k+j)).tick+1):=h3.tick1
  rw [e]
  exact ⟨h1,h2,h3.next⟩
def exB:List BthG:=[⟨4,2,3,1,false⟩,⟨2,5,2,0,false⟩]
def exG:List Grp:=[⟨0,3,20,[0,1],100⟩,⟨0,2,30,[0,1],100⟩]
theorem Ngt.last_parties (N:Ngt):N.last.parties=N.parties:=rfl
theorem P6 (w:Int) (B:List BthG) (G:List Grp):(Ngt.played w B G).parties=(Ngt.run w B G 4001).parties:=Ngt.last_parties _
end Go.Proofs.YtoelhdjloaknbaaGreat
namespace Go.Proofs.YtoelhdjloaknbaaGreat
open Go.RowKit
theorem Ak.less {e:TypeId} {ss:List Sh} {σ σ5 σ9:Hp} {A:Option Addr} {n c:Nat} {xs:List (TyR ss)} (h:Ak e ss σ5 A n c xs σ9) (hs:Hp.Sub σ σ5):∃ σ',Ak e ss σ A n c xs σ'/\Hp.Sub σ' σ9:=
 Av.less (R:=fun σ σ'=>Ak e ss σ A n c xs σ') Av.own h hs
theorem Ngt.last_stat {N:Ngt} {nr:Nat} {G:List Grp} (h:N.stat nr G):N.last.stat nr G:=h
theorem OI (w:Int) (B:List BthG) (G:List Grp):(Ngt.played w B G).stat B.length G:=Ngt.last_stat (Ngt.run_stat _)
section
variable {σ:Hp} {w:Int} {r l:SL} {B:List BthG} {ws:Nat->SL} {G:List Grp}
def ofL (c:Int) (xs:List Int):List Int:=if c=0 then xs else []
theorem Xx {c:Int} {xs:List Int} (h:c=0):ofL c xs=xs:=if_pos h
theorem Yd {c:Int} {xs:List Int} (h:¬ c=0):ofL c xs=[]:=if_neg h
def OfI (σ:Hp) (c:Int) (xs:List Int):Value->Hp->Prop:=fun v σ'=>∃ s:SL,v=.tuple #[s.v,.int .i64 c]/\Ak 3 [.int .i64] σ s.A s.n s.c (ofL c xs) σ'
theorem T9 {fe fn:Value} {f:Pty->Int} {N:Ngt} (hr:EvR σ r B l ws G) (hP:Ngt.played w B G=N)
  (hE:∀ (τ σ1:Hp) (W:NW) (N:Ngt),Aq W σ1 τ N->cl Tryz.prog fe #[.pointer (some ⟨W.nb,0,none⟩)] τ fun v τ'=>v=W.p.v/\τ'=τ)
  (hN:∀ (τ σ1:Hp) (W:NW) (N:Ngt) (g:Int),Aq W σ1 τ N->g.toNat<N.parties.length->cl Tryz.prog fn #[.pointer (some ⟨W.pb g,0,none⟩)] τ fun v τ'=>v=.int .i64 (f (N.pa g))/\τ'=τ):
  Ae Tryz.prog Im #[.agg #[r.v,.int .i64 w],l.v,fe,fn] σ (OfI σ (J2 w B G) (N.parties.map f)):=by
 have hst:=OI w B G
 rw [hP] at hst
 refine GD _ _ _ _ _ _ _ _ _ _ _ ?_
 unfold B8
 refine clI Dg (RF hr) (BR (fun h=>Al ⟨⟨none,0,0⟩,rfl,?_⟩) (fun h=>?_))
 ·exact (congrArg (fun z:List Int=>Ak 3 [.int .i64] σ none 0 0 z σ) (Yd h)).mpr (Ak.nil ..)
 have hv:=KG h
 refine Af fun J6 h6=>?_
 refine AU Mf (Uc hr hv) ?_
 rintro v σ11 ⟨W,σ1,rfl,hs1,hS,hn⟩
 rw [hP] at hn
 refine ⟨_,rfl,?_⟩
 refine BO.mono (hE σ11 σ1 W N hn) ?_
 rintro _ τ2 ⟨rfl,e2⟩
 rw [e2]
 clear e2 τ2
 have hpl:W.p.n=N.parties.length:=by rw [hS.p.1,← hS.lp.trans hst.len.symm];exact List.length_map ..
 have hvn:=hv.n
 have hpn:=hst.len
 refine ⟨_,_,_,rfl,⟨fun m xs i τ=>∃ k:Nat,m=N.parties.length-k/\xs=(N.parties.take k).map f/\i=k/\k<=N.parties.length/\τ=σ11,⟨_,IA.2 ⟨0,rfl,rfl,rfl,by omega,rfl⟩⟩,?_⟩⟩
 rintro m xs i τ ⟨k,rfl,rfl,rfl,hk,rfl⟩ _
 refine AD (fun hlt=>?_) (fun hlt=>?_)
 ·have hkl:k<N.parties.length:=by omega
  refine (hS.sub hn.sub).pix hst (by omega) (by simpa using hkl) ?_
  refine BO.mono (hN τ σ1 W N k hn (by simpa using hkl)) ?_
  rintro _ _ ⟨rfl,rfl⟩
  refine ⟨_,rfl,Bg (by simp;omega) (AP (by omega) (AW (N.parties.length-(k+1)) (by omega) ⟨k+1,rfl,?_,by omega,by omega,rfl⟩))⟩
  rw [List.take_succ_eq_append_getElem hkl,List.map_append]
  have:N.pa k=N.parties[k]:=by simp [Ngt.pa,List.getD,hkl]
  rw [this]
  rfl
 ·have:k=N.parties.length:=by omega
  subst this
  rw [List.take_length,h6]
  intro _
  intro A8 l8 c8 σ9 o9
  obtain ⟨σ',o1,o2⟩:=o9.less (hs1.trans hn.sub)
  refine Bl o2 ⟨⟨A8,l8,c8⟩,by rw [h];rfl,?_⟩
  exact (congrArg (fun z:List Int=>Ak 3 [.int .i64] σ A8 l8 c8 z σ') (Xx h)).mpr o1
theorem Wd (τ σ1:Hp) (W:NW) (N:Ngt) (h:Aq W σ1 τ N):cl Tryz.prog (.func (.func Pg) #[] #[]) #[.pointer (some ⟨W.nb,0,none⟩)] τ fun v τ'=>v=W.p.v/\τ'=τ:=by
 refine BO.func JD ?_
 refine Mh _ _ _ ?_
 unfold Fk
 obtain ⟨v,hnb,_⟩:=h.nblk
 exact AA (Bm hnb rfl (Al ⟨rfl,rfl⟩))
theorem Z4 (τ σ1:Hp) (W:NW) (N:Ngt) (g:Int) (h:Aq W σ1 τ N) (hg:g.toNat<N.parties.length):cl Tryz.prog (.func (.func PM) #[] #[]) #[.pointer (some ⟨W.pb g,0,none⟩)] τ fun v τ'=>v=.int .i64 (N.pa g).home/\τ'=τ:=by
 refine BO.func KB ?_
 refine NE _ _ _ ?_
 unfold Gm
 exact AA (AY (h.pblk hg) rfl (Al ⟨rfl,rfl⟩))
theorem Z6 (hr:EvR σ r B l ws G):Ae Tryz.prog Rj #[.agg #[r.v,.int .i64 w],l.v] σ (OfI σ (J2 w B G) ((Ngt.played w B G).parties.map Pty.home)):=by
 refine Pq _ _ _ _ _ _ _ _ _ ?_
 unfold Ju
 refine AU E9 (T9 hr rfl Wd Z4) ?_
 rintro v σ2 ⟨s,rfl,ho⟩
 exact ⟨_,_,_,_,rfl,Al ⟨s,rfl,ho⟩⟩
theorem V9:Ae Tryz.prog O1 #[] σ fun v σ'=>∃ (r l:SL) (ws:Nat->SL),v=.tuple #[.agg #[r.v,.int .i64 1],l.v]/\Hp.Sub σ σ'/\EvR σ' r exB l ws exG:=by
 refine Md _ _ ?_
 unfold Fr
 intro A1 l1 c1 σ2 o2 A3 l3 c3 σ4 o4 A5 l5 c5 σ6 o6 A7 l7 c7 σ8 o8
 refine Al ⟨⟨A1,l1,c1⟩,⟨A7,l7,c7⟩,fun i=>if i=0 then ⟨A3,l3,c3⟩ else ⟨A5,l5,c5⟩,rfl,o2.sub.trans (o4.sub.trans (o6.sub.trans o8.sub)),⟨RdS.sub o2.rd (o4.sub.trans (o6.sub.trans o8.sub)),o8.rd,fun i hi=>?_⟩⟩
 match i,hi with
 | 0,_=>exact RdS.sub o4.rd (o6.sub.trans o8.sub)
 | 1,_=>exact RdS.sub o6.rd o8.sub
end
end Go.Proofs.YtoelhdjloaknbaaGreat
