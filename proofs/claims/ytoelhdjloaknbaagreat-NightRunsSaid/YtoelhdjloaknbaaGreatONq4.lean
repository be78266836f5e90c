/- Trimmed by wip/trim.py to what this claim rests on. -/
import Derived.Test.YtoelhdjloaknbaaGreatONq2
import Derived.Test.YtoelhdjloaknbaaGreatOR4
namespace Go.Proofs.YtoelhdjloaknbaaGreat
set_option maxRecDepth 100000
open Go.RowKit
section
variable {σ:Hp} {W:GaW} {g:Gal}
theorem Acu {A:Option Addr} {n c:Nat} {ws:List Int} {r t:Nat} (h:GaR σ W g) (hg:Es g) (hw:RdS [.int .i64] σ A n ws) (hl:ws.length<=500) (hr:r<g.B.length) (ht:t<ws.length):Ad Tryz.prog UC #[W.v g,.slice A n c,.int .i64 (r:Nat),.int .i64 (t:Nat)] σ fun v σ'=>v=.bool (P1 ws (gt g.li (r:Nat)) (gt g.em (r:Nat)) t)/\σ'=σ:=by
 refine RH _ _ _ _ _ _ _ _ _ _ _ _ _ _ _ _ _ _ _ _ _ _ _ _ _ _ _ _ _ _ _ _ _ _ _ _ _ _ _ ?_
 unfold K0
 have hn:=hw.lenI
 have hli:=hg.nli
 have hem:=hg.nem
 have hem2:0<=gt g.em (r:Nat)/\gt g.em (r:Nat)<=100:=hg.em _ (Zk (by omega))
 have hiff:=ZA (ws:=ws) (lim:=gt g.li (r:Nat)) ht hem2.1
 refine Ab fun J3 h3=>?_
 refine ⟨fun q i τ=>∃ j:Nat,q=ws.length-j/\i=j/\t<=j/\j<=ws.length/\τ=σ/\∀ m:Nat,t<=m->m<j->gt ws (m:Nat)<=gt g.li (r:Nat),⟨_,t,rfl,rfl,by omega,by omega,rfl,fun m a b=>by omega⟩,?_⟩
 rintro q i τ ⟨j,rfl,rfl,hj1,hj2,rfl,hj⟩ _
 refine Ab fun J11 h11=>Ab fun J23 h23=>?_
 have k3:(∀ m:Nat,t<=m->(m:Int)<=t+gt g.em (r:Nat)->m<ws.length->m<j)->J3 τ:=by
  intro hx
  rw [h3]
  intro _
  refine Ag ⟨?_,rfl⟩
  rw [hiff.2 fun m a b d=>hj m a (hx m a b d)]
 have k23:∀ x,x=decide (((j:Nat):Int)<=t+gt g.em (r:Nat)/\j<ws.length)->J23 x τ:=by
  rintro x rfl
  rw [h23]
  intro _
  refine AA (fun a=>?_) (fun a=>k3 fun m b d e=>by omega)
  rw [h11]
  intro _
  refine DA hw (by omega) (by omega) (DA h.li (by omega) (by omega) (AA (fun b=>Ag ⟨?_,rfl⟩) (fun b=>?_)))
  ·have:P1 ws (gt g.li (r:Nat)) (gt g.em (r:Nat)) t=false:=by
    cases e:P1 ws (gt g.li (r:Nat)) (gt g.em (r:Nat)) t with
    | false=>rfl
    | true=>
     have:=hiff.1 e j hj1 a.1 a.2
     omega
   rw [this]
  ·refine AL (by omega) (A0 _ (by omega) ⟨j+1,rfl,by omega,by omega,by omega,rfl,fun m a1 a2=>?_⟩)
   rcases Nat.lt_or_ge m j with c1 | c1
   ·exact hj m a1 c1
   ·obtain rfl:m=j:=by omega
    omega
 refine DA h.em (by omega) (by omega) (AL (by omega) (AA (fun a=>k23 _ ?_) (fun a=>k23 _ ?_)))
 ·exact decide_eq_decide.2 ⟨fun x=>⟨a,by omega⟩,fun x=>by omega⟩
 ·symm
  exact decide_eq_false fun x=>a x.1
theorem Abx {ws:List Int} {lim em:Int} {t:Nat} (ht:t<ws.length):(JR ws lim em).getD t false=P1 ws lim em t:=by
 unfold JR
 simp [List.getD,ht]
theorem AbB {g:Gal} {ws:List Int} {i:Nat} (h:(i:Int)∈g.open):g.runA ws i=adj (JR ws (gt g.li (i:Nat)) (gt g.em (i:Nat))) ws.length:=if_pos h
theorem ZS {g:Gal} {ws:List Int} {i:Nat} (h:¬ (i:Int)∈g.open):g.runA ws i=[]:=if_neg h
theorem Abq {A:Option Addr} {n c:Nat} {ws:List Int} (h:GaR σ W g) (hB:g.B.length<=4294967296) (hc:W.e.n<=W.e.c) (hw:RdS [.int .i64] σ A n ws) (hl:ws.length<=4294967296):Ad Tryz.prog T5 #[W.v g,.slice A n c] σ (RnR σ g ws):=by
 refine Rj _ _ _ _ _ _ _ _ _ _ _ _ _ _ _ _ _ _ _ _ _ _ _ _ _ _ _ _ _ _ _ _ _ _ _ _ _ ?_
 unfold Jv
 have hn:=hw.lenI
 refine clI MJ (YO h hB hc) (Bi (fun e=>Ag (RnR.err (if_neg e) e)) (fun e=>?_))
 have eE:g.runE ws=if 500<ws.length then 2 else if (ws.any fun x=>!Inn x 0 200)=true then 1 else 0:=if_pos e
 refine AA (fun a=>Ag (RnR.err (by rw [eE,if_pos (by omega)]) (by decide))) (fun a=>?_)
 rw [if_neg (by omega)] at eE
 have hg:=Gal.chk_ok e
 have hB8:=hg.n
 have hl5:ws.length<=500:=by omega
 refine Ab fun J6 h6=>?_
 have k6:(∀ j:Nat,j<ws.length->Inn (gt ws (j:Nat)) 0 200=true)->J6 σ:=by
  intro hall
  have hany:¬ (ws.any fun x=>!Inn x 0 200)=true:=by
   rw [List.any_eq_true]
   rintro ⟨x,hx,hb⟩
   obtain ⟨j,hj,rfl⟩:=List.getElem_of_mem hx
   have:=hall j hj
   rw [B9 hj] at this
   rw [this] at hb
   cases hb
  rw [if_neg hany] at eE
  rw [h6]
  intro _
  refine Bg Nf (Abi h hg hc) ?_
  rintro v σ8 ⟨A9,n9,c9,rfl,ho⟩
  have hs8:=ho.sub
  have hrd:=ho.rd
  have hn9:n9=(g.flg g.open).length:=ho.len
  have hfl:(g.flg g.open).length=g.B.length:=Gal.flg_len
  clear ho
  refine ⟨_,_,_,rfl,Ab fun J12 h12=>?_⟩
  refine ⟨fun q ys i τ=>∃ k:Nat,q=g.B.length-k/\i=k/\k<=g.B.length/\Hp.Sub σ8 τ/\ys.length=k/\∀ i,(h:i<ys.length)->RdS s22 τ ys[i].1 ys[i].2.1 (g.runA ws i),⟨_,Fq.2 ⟨0,rfl,rfl,by omega,Hp.Sub.refl _,rfl,fun i hi=>absurd hi (Nat.not_lt_zero _)⟩⟩,?_⟩
  rintro q ys i τ ⟨k,rfl,rfl,hk,hsτ,hyl,hy⟩ _
  refine AA (fun hlt=>?_) (fun hlt=>?_)
  ·have hkl:k<g.B.length:=by omega
   have ek:(g.flg g.open)[k]'(by omega)=decide ((k:Int)∈g.open):=by unfold Gal.flg;simp
   refine Ab fun J26 h26=>Ab fun J33 h33=>?_
   have k33:∀ A n c τ',Ak 44 s22 τ A n c (g.runA ws k) τ'->J33 A n c τ':=by
    intro A n c τ' ho
    rw [h33]
    intro _
    refine Be (by show ys.length+1<=_;omega) ?_
    rw [h26]
    intro _
    refine AL (by omega) (A0 _ (by omega) ⟨k+1,rfl,by omega,by omega,hsτ.trans ho.sub,by simp [hyl],fun i hi=>?_⟩)
    rcases Nat.lt_or_ge i k with h3 | h3
    ·rw [List.getElem_append_left (by omega)]
     exact (hy i (by omega)).sub ho.sub
    ·have hi2:i=k:=by
      have:i<ys.length+1:=by simpa using hi
      omega
     subst hi2
     have e:(ys++[(A,n,c)])[i]'hi=(A,n,c):=by rw [List.getElem_append_right (by omega)];simp [hyl]
     rw [e]
     exact ho.rd
   clear h33 h26
   refine ⟨fun q A' n' c' t τ2=>∃ u:Nat,q=ws.length-u/\t=u/\u<=ws.length/\Ak 44 s22 τ A' n' c' (adj (JR ws (gt g.li (k:Nat)) (gt g.em (k:Nat))) u) τ2/\(u≠0->(k:Int)∈g.open),⟨_,0,rfl,rfl,by omega,Ak.nil ..,fun x=>absurd rfl x⟩,?_⟩
   rintro q A' n' c' t τ2 ⟨u,rfl,rfl,hu,hoq,hop⟩ _
   have hal:=Rx (ms:=JR ws (gt g.li (k:Nat)) (gt g.em (k:Nat))) u
   have hql:n'=(adj (JR ws (gt g.li (k:Nat)) (gt g.em (k:Nat))) u).length:=hoq.len
   have hsA:=hs8.trans (hsτ.trans hoq.sub)
   refine Ab fun J43 h43=>Ab fun J77 h77=>?_
   have k77:∀ x,x=decide (u<ws.length/\(k:Int)∈g.open)->J77 x τ2:=by
    rintro x rfl
    rw [h77]
    intro _
    refine AA (fun a=>?_) (fun a=>k33 _ _ _ _ ?_)
    ·have es:adj (JR ws (gt g.li (k:Nat)) (gt g.em (k:Nat))) (u+1)=if P1 ws (gt g.li (k:Nat)) (gt g.em (k:Nat)) u=true then ext (adj (JR ws (gt g.li (k:Nat)) (gt g.em (k:Nat))) u) (u:Nat) else adj (JR ws (gt g.li (k:Nat)) (gt g.em (k:Nat))) u:=by
      rw [← Abx a.1]
      rfl
     have hmay:=Acu (c:=c) (h.sub hsA) hg (hw.sub hsA) hl5 hkl a.1
     rw [h43]
     intro _
     refine Ab fun J46 h46=>?_
     have k46:∀ A' n' c' τ',Ak 44 s22 τ A' n' c' (adj (JR ws (gt g.li (k:Nat)) (gt g.em (k:Nat))) (u+1)) τ'->J46 A' n' c' τ':=by
      intro A' n' c' τ' h'
      rw [h46]
      intro _
      exact AL (by omega) (A0 _ (by omega) ⟨u+1,rfl,by omega,by omega,h',fun _=>a.2⟩)
     rw [es] at k46
     clear es h46 h43 h77 hop k33
     refine clB Oy hmay ?_
     generalize adj (JR ws (gt g.li (k:Nat)) (gt g.em (k:Nat))) u=L at *
     cases em2:P1 ws (gt g.li (k:Nat)) (gt g.em (k:Nat)) u with
     | false=>
      rw [em2,if_neg (by decide)] at k46
      exact Acm (k46 _ _ _ _ hoq)
     | true=>
      rw [em2,if_pos rfl] at k46
      refine AbC (AL (by omega) (Ab fun J57 h57=>?_))
      have k57:∀ t,t=decide (0<L.length/\(WR L).2=(u:Nat))->J57 t τ2:=by
       rintro t rfl
       rw [h57]
       intro _
       unfold ext at k46
       refine AA (fun b=>?_) (fun b=>?_)
       ·rw [if_pos b] at k46
        have el:((n':Nat):Int)-1=((L.length-1:Nat):Int):=by omega
        rw [el]
        refine AL (by omega) (YP hoq (by omega) fun τ' h'=>?_)
        exact k46 _ _ _ _ h'
       ·rw [if_neg b] at k46
        refine AL (by omega) (Cj hoq (Be (by show L.length+1<=_;omega) ?_))
        intro A2 n2 c2 τ' h'
        exact k46 _ _ _ _ h'
      refine AA (fun b=>?_) (fun b=>k57 _ ?_)
      ·have el:((n':Nat):Int)-1=((L.length-1:Nat):Int):=by omega
       rw [el]
       refine Wb hoq.rd (by omega) (by omega) (k57 _ ?_)
       rw [Int.toNat_natCast]
       exact decide_eq_decide.2 ⟨fun x=>⟨by omega,x⟩,fun x=>x.2⟩
      ·symm
       exact decide_eq_false fun x=>b (by omega)
    ·by_cases b:(k:Int)∈g.open
     ·obtain rfl:u=ws.length:=by
       rcases Nat.lt_or_ge u ws.length with h3 | h3
       ·exact absurd ⟨h3,b⟩ a
       ·omega
      rw [AbB b]
      exact hoq
     ·have:u=0:=by
       rcases Nat.eq_zero_or_pos u with h3 | h3
       ·exact h3
       ·exact absurd (hop (by omega)) b
      subst this
      rw [ZS b]
      exact hoq
   refine AA (fun a=>Abl (hrd.sub (hsτ.trans hoq.sub)) (by omega) ?_) (fun a=>k77 _ ?_)
   ·rw [ek]
    refine k77 _ ?_
    exact decide_eq_decide.2 ⟨fun x=>⟨by omega,x⟩,fun x=>x.2⟩
   ·symm
    exact decide_eq_false fun x=>a (by omega)
  ·obtain rfl:k=g.B.length:=by omega
   rw [h12]
   intro _ A14 n14 c14 σ15 ho
   exact Ag ⟨⟨A14,n14,c14⟩,ys,by rw [eE];rfl,hs8.trans (hsτ.trans ho.sub),fun _=>⟨ho.rd,hyl,fun i hi=>(hy i hi).sub ho.sub⟩,fun x=>absurd eE x⟩
 refine ⟨fun q i τ=>∃ j:Nat,q=ws.length-j/\i=j/\j<=ws.length/\τ=σ/\∀ m:Nat,m<j->Inn (gt ws (m:Nat)) 0 200=true,⟨_,0,rfl,rfl,by omega,rfl,fun m b=>by omega⟩,?_⟩
 rintro q i τ ⟨j,rfl,rfl,hj,rfl,hall⟩ _
 refine AA (fun hlt=>?_) (fun hlt=>?_)
 ·have hjl:j<ws.length:=by omega
  refine DA hw (by omega) (by omega) (WV (Bd (fun b=>Ag (RnR.err ?_ (by decide))) (fun b=>AL (by omega) (A0 _ (by omega) ⟨j+1,rfl,by omega,by omega,rfl,fun m a1=>?_⟩))))
  ·rw [eE,if_pos]
   rw [B9 hjl] at b
   exact List.any_eq_true.2 ⟨_,List.getElem_mem hjl,by rw [b];rfl⟩
  ·rcases Nat.lt_or_ge m j with c1 | c1
   ·exact hall m c1
   ·obtain rfl:m=j:=by omega
    exact b
 ·obtain rfl:j=ws.length:=by omega
  exact k6 hall
end
end Go.Proofs.YtoelhdjloaknbaaGreat
