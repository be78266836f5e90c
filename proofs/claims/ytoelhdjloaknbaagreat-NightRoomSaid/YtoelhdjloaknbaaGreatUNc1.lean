/- What this claim rests on. -/
import Derived.Test.YtoelhdjloaknbaaGreatUB16
import Derived.Test.YtoelhdjloaknbaaGreatUNb1
namespace Go.Proofs.YtoelhdjloaknbaaGreat
set_option maxRecDepth 100000
open Go.RowKit Go.Proofs.Tryz
structure Gal where
 B:List BthG
 w:Int
 b:Bok
 es:List Ent
 day:Int
 S:Sup
 li:List Int
 em:List Int
structure GaW where
 r:SL
 b:BkW
 e:SL
 s:SuW
 li:SL
 em:SL
def GaW.v (W:GaW) (g:Gal):Value:=.agg #[W.r.v,aD g.w,W.b.r.v,W.b.k.v,W.b.i.v,W.e.v,aD g.day,W.s.b.v,W.s.l.v,aD g.S.p,aD g.S.h,aD g.S.v,W.li.v,W.em.v]
structure GaR (σ:Hp) (W:GaW) (g:Gal):Prop where
 r:RdS sB σ W.r.A W.r.n (g.B.map Kv)
 k:LgR σ W.b W.e g.b g.es
 s:SuR σ W.s g.S
 li:RdS aM σ W.li.A W.li.n g.li
 em:RdS aM σ W.em.A W.em.n g.em
theorem GaR.sub {σ σ':Hp} {W:GaW} {g:Gal} (h:GaR σ W g) (hs:Hp.Sub σ σ'):GaR σ' W g:=⟨h.r.sub hs,h.k.sub hs,h.s.sub hs,h.li.sub hs,h.em.sub hs⟩
theorem GaR.rn {σ:Hp} {W:GaW} {g:Gal} (h:GaR σ W g):W.r.n=g.B.length:=by rw [h.r.1];exact List.length_map ..
abbrev sl0:SL:=⟨none,0,0⟩
theorem GaR.ev {σ:Hp} {W:GaW} {g:Gal} (h:GaR σ W g):EvR σ W.r g.B sl0 (fun _=>sl0) []:=⟨h.r,⟨rfl,.inl rfl⟩,fun _ hi=>absurd hi (Nat.not_lt_zero _)⟩
def Gal.ok1 (g:Gal):Bool:=decide (g.b.I.length=g.B.length)&&decide (g.S.L.length=g.B.length)&&decide (g.li.length=g.B.length)&&decide (g.em.length=g.B.length)&&Inn g.day 0 10000
def Gal.ok2 (g:Gal):Bool:=g.li.all (Inn · 0 200)&&g.em.all (Inn · 0 100)
def Gal.chk (g:Gal):Int:=if Fs g.w g.B []=0 then if (g.b.chk g.es).2=0 then if g.S.e=0 then if g.ok1&&g.ok2 then 0 else 120 else g.S.e else (g.b.chk g.es).2 else Fs g.w g.B []
structure Iw (g:Gal):Prop where
 q:Fs g.w g.B []=0
 n:g.B.length<=8
 b:(g.b.chk g.es).2=0
 s:g.S.ok=true
 nI:g.b.I.length=g.B.length
 nL:g.S.L.length=g.B.length
 nli:g.li.length=g.B.length
 nem:g.em.length=g.B.length
 day:0<=g.day/\g.day<=10000
 li:∀ x∈g.li,0<=x/\x<=200
 em:∀ x∈g.em,0<=x/\x<=100
theorem Gal.chk_ok {g:Gal} (h:g.chk=0):Iw g:=by
 unfold Gal.chk at h
 split at h
 ·rename_i h1
  split at h
  ·rename_i h2
   split at h
   ·rename_i h3
    split at h
    ·rename_i h4
     unfold Gal.ok1 Gal.ok2 Inn at h4
     simp only [Bool.and_eq_true,decide_eq_true_eq,List.all_eq_true] at h4
     obtain ⟨⟨⟨⟨⟨a,b⟩,c⟩,d⟩,e⟩,f,k⟩:=h4
     exact ⟨h1,(Cu h1).m,h2,Sup.e0 h3,a,b,c,d,e,f,k⟩
    ·cases h
   ·rename_i h3;exact absurd h h3
  ·rename_i h2;exact absurd h h2
 ·rename_i h1;exact absurd h h1
def opF (S:Sup) (s:Nat×List Int) (r:Int):Nat×List Int:=if (S.fits ((VV s.1 r.toNat:Nat):Int)).2.1=true then (VV s.1 r.toNat,s.2++[r]) else s
def Gal.rel (g:Gal):List Int:=g.b.relD g.es g.day
def Gal.opS (g:Gal) (k:Nat):Nat×List Int:=(g.rel.take k).foldl (opF g.S) (0,[])
def Gal.open (g:Gal):List Int:=(g.opS g.rel.length).2
theorem Gal.opS_succ {g:Gal} {k:Nat} (hk:k<g.rel.length):g.opS (k+1)=opF g.S (g.opS k) g.rel[k]:=by
 unfold Gal.opS
 rw [List.take_succ_eq_append_getElem hk,List.foldl_append]
 rfl
theorem Iw.rel_in {g:Gal} (h:Iw g) {r:Int} (hr:r∈g.rel):0<=r/\r<g.B.length:=by
 unfold Gal.rel Bok.relD at hr
 split at hr
 ·unfold Bok.rel at hr
  rw [List.mem_map] at hr
  obtain ⟨j,hj,rfl⟩:=hr
  rw [List.mem_filter,List.mem_range,h.nI] at hj
  omega
 ·cases hr
theorem Iw.set_lt {g:Gal} (h:Iw g):∀ k,k<=g.rel.length->(g.opS k).1<2^g.S.L.length
 | 0,_=>Nat.pow_pos (by omega)
 | k+1,hk=>by
  have ih:=h.set_lt k (by omega)
  have hr:=h.rel_in (List.getElem_mem (show k<g.rel.length by omega))
  rw [Gal.opS_succ (by omega)]
  unfold opF
  split
  ·exact Vt ih (by rw [h.nL];omega)
  ·exact ih
theorem Iw.fits_e {g:Gal} (h:Iw g) {m:Nat} (hm:m<2^g.S.L.length):(g.S.fits (m:Int)).2.2=0:=by
 have h1:g.S.e=0:=by unfold Sup.e;rw [h.s];rfl
 have h2:g.S.eS (m:Int)=0:=by
  unfold Sup.eS
  rw [if_pos h1]
  have:Inn (m:Int) 0 ((2^g.S.L.length:Nat)-1:Int)=true:=decide_eq_true (by omega)
  rw [this];rfl
 unfold Sup.fits
 rw [if_pos h2]
theorem Iw.dayE {g:Gal} (h:Iw g):g.b.dayE g.es g.day=0:=by
 unfold Bok.dayE
 rw [if_pos h.b]
 have:Inn g.day 0 10000=true:=decide_eq_true h.day
 rw [this];rfl
theorem Zq {S:Sup} {s:Nat×List Int} {r:Int}:(opF S s r).2.length<=s.2.length+1:=by
 unfold opF
 split
 ·simp
 ·simp
theorem Gal.opS_len {g:Gal}:∀ k,k<=g.rel.length->(g.opS k).2.length<=k
 | 0,_=>Nat.le_refl _
 | k+1,hk=>by
  have ih:=Gal.opS_len (g:=g) k (by omega)
  rw [Gal.opS_succ (by omega)]
  have:=Zq (S:=g.S) (s:=g.opS k) (r:=g.rel[k]'(by omega))
  omega
theorem Iw.rel_len {g:Gal} (h:Iw g):g.rel.length<=g.B.length:=by
 unfold Gal.rel
 rw [show g.b.relD g.es g.day=P4 g.b (Bok.upE g.es g.day) g.day g.b.I.length from if_pos h.dayE]
 have:=SH g.b (Bok.upE g.es g.day) g.day g.b.I.length
 rw [h.nI] at this ⊢
 exact this
section
variable {σ:Hp} {W:GaW} {g:Gal}
theorem Wg {n lo hi:Int}:Af prog 35 #[aD n,aD lo,aD hi] σ fun v σ'=>v=.bool (Inn n lo hi)/\σ'=σ:=by
 apply Nz
 unfold GB
 refine AF (fun h=>Al ⟨?_,rfl⟩) (fun h=>Al ⟨?_,rfl⟩)
 ·simp [Inn,h]
 ·simp [Inn,h]
theorem X7 {n lo hi:Int} {K:Bool->Hp->Prop} (h:K (Inn n lo hi) σ):aC 35 #[aD n,aD lo,aD hi] σ fun v σ'=>∃ t:Bool,(v=.bool t/\K t σ'):=clB (aV 35) Wg h
theorem TP {m:Int}:Af prog 71 #[aD m] σ fun v σ'=>∃ b,v=.func (.func 72) #[] #[.pointer (some ⟨b,0,none⟩)]/\Blk b (.cells #[aD m] 3 (0,0)) σ σ':=by
 refine Mx _ _ _ ?_
 intro b nb
 exact Al ⟨b,rfl,nb,rfl⟩
theorem Qb {b:Nat} {m x:Int} (h:σ b=some (.cells #[aD m] 3 (0,0),true)):cl prog (.func (.func 72) #[] #[.pointer (some ⟨b,0,none⟩)]) #[aD x] σ fun v σ'=>v=.bool (!Inn x 0 m)/\σ'=σ:=by
 refine B7.func (aV 72) (KL _ _ _ _ ?_)
 unfold Ey
 exact AG (Bh h rfl (X7 (Al ⟨rfl,rfl⟩)))
theorem SV (h:GaR σ W g):Af prog 32 #[W.v g] σ fun v σ'=>v=aD g.chk/\σ'=σ:=by
 apply OR
 unfold Hr
 have hrn:=h.rn
 have hIn:=h.k.b.in
 have hLn:=h.s.ln
 have hln:W.li.n=g.li.length:=h.li.lenI
 have hmn:W.em.n=g.em.length:=h.em.lenI
 have hq:Af prog 68 #[.agg #[W.r.v,aD g.w],aN none 0 0] σ fun v σ'=>v=aD (Fs g.w g.B [])/\σ'=σ:=by
  have h1:=Sk (w:=g.w) h.ev
  exact h1
 refine clI (aV 68) hq (BQ (fun e=>Al ⟨?_,rfl⟩) (fun e1=>?_))
 ·unfold Gal.chk;rw [if_neg e]
 refine AW (aV 69) (Xg h.k) ?_
 rintro v τ ⟨rfl,rfl⟩
 refine ⟨_,_,rfl,BQ (fun e=>Al ⟨?_,rfl⟩) (fun e2=>clI (aV 70) (Tf h.s) (BQ (fun e=>Al ⟨?_,rfl⟩) (fun e3=>?_)))⟩
 ·unfold Gal.chk;rw [if_pos e1,if_neg e]
 ·unfold Gal.chk;rw [if_pos e1,if_pos e2,if_neg e]
 have ec:g.chk=if g.ok1&&g.ok2 then 0 else 120:=by unfold Gal.chk;rw [if_pos e1,if_pos e2,if_pos e3]
 have hB:g.B.length<=8:=(Cu e1).m
 rw [ec]
 refine Ah fun J13 h13=>Ah fun J16 h16=>?_
 have k16:∀ t,t=!g.ok1->J16 t τ:=by
  rintro t rfl
  rw [h16]
  intro _
  refine B5 (fun e=>Al ⟨?_,rfl⟩) (fun e4=>?_)
  ·rw [e];rfl
  have e4':=e4
  unfold Gal.ok1 at e4'
  simp only [Bool.and_eq_true,decide_eq_true_eq] at e4'
  refine Ah fun J20 h20=>?_
  have k20:∀ t t',Hp.Sub τ t'->t=!g.ok2->J20 t t':=by
   rintro t t' hs rfl
   rw [h20]
   intro _
   refine B5 (fun e=>Bm hs ⟨?_,rfl⟩) (fun e5=>?_)
   ·rw [e,Bool.and_false];rfl
   rw [h13]
   intro _
   refine Bm hs ⟨?_,rfl⟩
   rw [e4,e5];rfl
  refine AW (aV 71) TP ?_
  rintro v s1 ⟨b1,rfl,hb1⟩
  refine ⟨_,rfl,hb1.nin,?_⟩
  refine clB (aV 33) (Ns (p:=fun x=>!Inn x 0 200) (h.li.sub hb1.nin) (by omega) fun x _=>Qb hb1.get) (C4 (fun e5=>k20 _ _ hb1.nin ?_) (fun e5=>?_))
  ·rw [GM] at e5 ⊢
   unfold Gal.ok2
   have:g.li.all (Inn · 0 200)=false:=by simpa using e5
   rw [this];rfl
  ·rw [GM] at e5
   refine AW (aV 71) TP ?_
   rintro v σ2 ⟨b2,rfl,hb2⟩
   have hs2:=hb1.nin.trans hb2.nin
   refine ⟨_,rfl,hb2.nin,?_⟩
   refine clB (aV 33) (Ns (p:=fun x=>!Inn x 0 100) (h.em.sub hs2) (by omega) fun x _=>Qb hb2.get) (k20 _ _ hs2 ?_)
   rw [GM]
   unfold Gal.ok2
   have:g.li.all (Inn · 0 200)=true:=by simpa using e5
   rw [this];rfl
 clear h16 h13
 refine BQ (fun e=>k16 _ ?_) (fun a1=>BQ (fun e=>k16 _ ?_) (fun a2=>BQ (fun e=>k16 _ ?_) (fun a3=>BQ (fun e=>k16 _ ?_) (fun a4=>X7 (k16 _ ?_)))))
 ·have:¬ g.b.I.length=g.B.length:=by omega
  rw [decide_eq_false e];simp [Gal.ok1,this]
 ·have:¬ g.S.L.length=g.B.length:=by omega
  rw [decide_eq_false e];simp [Gal.ok1,this]
 ·have:¬ g.li.length=g.B.length:=by omega
  rw [decide_eq_false e];simp [Gal.ok1,this]
 ·have:¬ g.em.length=g.B.length:=by omega
  rw [decide_eq_false e];simp [Gal.ok1,this]
 ·have b1:g.b.I.length=g.B.length:=by omega
  have b2:g.S.L.length=g.B.length:=by omega
  have b3:g.li.length=g.B.length:=by omega
  have b4:g.em.length=g.B.length:=by omega
  simp [Gal.ok1,b1,b2,b3,b4]
theorem S8 (h:GaR σ W g) (hg:Iw g):Af prog 36 #[W.v g] σ (ZF 3 aM σ g.open):=by
 apply OE
 unfold HF
 refine AW (aV 74) (Uy (day:=g.day) h.k) ?_
 rintro v σ2 ⟨A,n,c,rfl,ho⟩
 have hs2:=ho.sub
 have hrd:=ho.rd
 have hn:n=g.rel.length:=ho.len
 have hrd:RdS aM σ2 A n g.rel:=hrd
 have hrl:=hg.rel_len
 have hn8:=hg.n
 have hS:=Sup.ok_spec hg.s
 have hnl:=hS.nl
 clear ho
 refine ⟨_,_,_,_,rfl,BQ (fun e=>absurd hg.dayE e) (fun _=>Ah fun J7 h7=>?_)⟩
 refine ⟨fun q A' n' c' m i τ=>∃ k:Nat,q=g.rel.length-k/\m=((g.opS k).1:Nat)/\i=k/\k<=g.rel.length/\Ak 3 aM σ2 A' n' c' (g.opS k).2 τ,⟨_,0,rfl,rfl,rfl,by omega,Ak.nil ..⟩,?_⟩
 rintro q A' n' c' m i τ ⟨k,rfl,rfl,rfl,hk,ho⟩ _
 have hs:=hs2.trans ho.sub
 refine AF (fun hlt=>?_) (fun hlt=>?_)
 ·have hkl:k<g.rel.length:=by omega
  have hr:=hg.rel_in (List.getElem_mem hkl)
  have hsucc:=Gal.opS_succ hkl
  refine Ah fun J18 h18=>EJ (hrd.sub ho.sub) (by omega) (by omega) ?_
  rw [B3 hkl]
  have k18:∀ A' n' c' t',Ak 3 aM σ2 A' n' c' (g.opS (k+1)).2 t'->J18 A' n' c' ((g.opS (k+1)).1:Nat) t':=by
   intro A' n' c' t' ho'
   rw [h18]
   intro _
   exact AS (by omega) (Be _ (by omega) ⟨k+1,rfl,rfl,by omega,by omega,ho'⟩)
  clear h18
  rw [hsucc] at k18
  have hlt1:=hg.set_lt k hk
  have hol:=Gal.opS_len (g:=g) k hk
  generalize g.rel[k]=r at *
  generalize g.opS k=s at *
  obtain ⟨j,rfl⟩:∃ j:Nat,r=j:=⟨r.toNat,by omega⟩
  have hj:j<=30:=by omega
  have e1:=Vk (n:=j) (by omega)
  have e2:=UW hj
  have e0:0<2^j:=Nat.pow_pos (by omega)
  have h62:s.1<2^62:=Nat.lt_of_lt_of_le hlt1 (Nat.pow_le_pow_right (by omega) (by omega))
  have hj62:2^j<2^62:=Nat.pow_lt_pow_right (by omega) (by omega)
  have e3:=AaO h62 hj62
  have hlt2:VV s.1 j<2^g.S.L.length:=Vt hlt1 (by rw [hg.nL];omega)
  have hp20:=UW (n:=g.S.L.length) (by omega)
  have e4:((s.1 ||| 2^j:Nat):Int)=((VV s.1 j:Nat):Int):=rfl
  refine ⟨by omega,?_⟩
  rw [e1]
  refine AS (by omega) ?_
  rw [e3,e4]
  refine AS (by omega) ?_
  refine AW (aV 75) (Z8 (h.sub hs).s) ?_
  rintro v t' ⟨rfl,rfl⟩
  have hfe:=hg.fits_e hlt2
  refine ⟨_,_,_,rfl,Ah fun J36 h36=>?_⟩
  have k36:J36 (g.S.fits ((VV s.1 j:Nat):Int)).2.1 t':=by
   rw [h36]
   intro _
   unfold opF at k18
   rw [Int.toNat_natCast] at k18
   refine C4 (fun e=>⟨by omega,?_⟩) (fun e=>?_)
   ·rw [if_pos e] at k18
    refine AS (by omega) ?_
    rw [e3,e4]
    refine AS (by omega) (CH ho (AY (by show s.2.length+1<=_;omega) ?_))
    intro A2 n2 c2 t2 ho2
    exact k18 _ _ _ _ ho2
   ·rw [if_neg (by rw [e];decide)] at k18
    exact k18 _ _ _ _ ho
  exact AF (fun _=>k36) (fun e=>absurd hfe e)
 ·obtain rfl:k=g.rel.length:=by omega
  rw [h7]
  intro _
  obtain ⟨s4,h6,h7'⟩:=Ay.own.less (R:=fun a c''=>Ak 3 aM a A' n' c' (g.opS g.rel.length).2 c'') ho hs2
  exact Bm h7' ⟨_,_,_,rfl,h6⟩
def Gal.opn (g:Gal):List Int:=if g.chk=0 then g.open else []
theorem XP (h:GaR σ W g):Af prog 31 #[W.v g] σ (Z2 3 aM σ g.opn g.chk):=by
 apply OP
 unfold HC
 refine clI (aV 32) (SV h) (BQ (fun e=>Al ⟨_,_,_,rfl,?_⟩) (fun e=>?_))
 ·have e2:g.opn=[]:=if_neg e
  rw [e2];exact Ak.nil ..
 ·refine AW (aV 36) (S8 h (Gal.chk_ok e)) ?_
  rintro v s5 ⟨A,n,c,rfl,ho⟩
  have e2:g.opn=g.open:=if_pos e
  refine ⟨_,_,_,rfl,Al ⟨A,n,c,by rw [e],?_⟩⟩
  rw [e2];exact ho
end
end Go.Proofs.YtoelhdjloaknbaaGreat
