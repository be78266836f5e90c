/- What this claim rests on. -/
import Derived.Test.YtoelhdjloaknbaaGreatUNd1
import Derived.Test.YtoelhdjloaknbaaGreatUR4
import Derived.Test.YtoelhdjloaknbaaGreatUW1
namespace Go.Proofs.YtoelhdjloaknbaaGreat
open Go.RowKit Go.Proofs.Tryz
def Yi (g:Gal):Bool:=decide (10<g.B.length)||(decide (25<g.b.R.length)||(decide (12<g.b.K.length)||(decide (15<g.b.I.length)||(decide (60<g.es.length)||(decide (15<g.S.B.length)||(decide (20<g.S.L.length)||(decide (15<g.li.length)||decide (15<g.em.length))))))))
structure Abt (g:Gal):Prop where
 B:g.B.length<=10
 R:g.b.R.length<=25
 K:g.b.K.length<=12
 I:g.b.I.length<=15
 es:g.es.length<=60
 sB:g.S.B.length<=15
 sL:g.S.L.length<=20
 li:g.li.length<=15
 em:g.em.length<=15
theorem ZO {g:Gal} (h:Yi g=false):Abt g:=by
 unfold Yi at h
 simp only [Bool.or_eq_false_iff,decide_eq_false_iff_not,Nat.not_lt] at h
 obtain ⟨a,b,c,d,e,f,k,l,m⟩:=h
 exact ⟨a,b,c,d,e,f,k,l,m⟩
section
variable {σ:Hp} {W:GaW} {g:Gal}
theorem AaM (h:GaR σ W g):Af prog 10 #[W.v g] σ fun v σ'=>v=.bool (Yi g)/\σ'=σ:=by
 apply QV
 unfold KX
 have e1:=h.rn
 have e2:=h.k.b.rn
 have e3:=h.k.b.kn
 have e4:=h.k.b.in
 have e5:W.e.n=g.es.length:=h.k.e.1
 have e6:=h.s.bn
 have e7:=h.s.ln
 have e8:W.li.n=g.li.length:=h.li.lenI
 have e9:W.em.n=g.em.length:=h.em.lenI
 unfold Yi
 refine AF (fun a=>Al ⟨?_,rfl⟩) (fun a1=>AF (fun a=>Al ⟨?_,rfl⟩) (fun a2=>AF (fun a=>Al ⟨?_,rfl⟩) (fun a3=>AF (fun a=>Al ⟨?_,rfl⟩) (fun a4=>AF (fun a=>Al ⟨?_,rfl⟩) (fun a5=>AF (fun a=>Al ⟨?_,rfl⟩) (fun a6=>AF (fun a=>Al ⟨?_,rfl⟩) (fun a7=>AF (fun a=>Al ⟨?_,rfl⟩) (fun a8=>Al ⟨?_,rfl⟩))))))))
 ·have:10<g.B.length:=by omega
  simp [this]
 ·have:25<g.b.R.length:=by omega
  simp [this]
 ·have:12<g.b.K.length:=by omega
  simp [this]
 ·have:15<g.b.I.length:=by omega
  simp [this]
 ·have:60<g.es.length:=by omega
  simp [this]
 ·have:15<g.S.B.length:=by omega
  simp [this]
 ·have:20<g.S.L.length:=by omega
  simp [this]
 ·have:15<g.li.length:=by omega
  simp [this]
 ·have b1:¬ 10<g.B.length:=by omega
  have b2:¬ 25<g.b.R.length:=by omega
  have b3:¬ 12<g.b.K.length:=by omega
  have b4:¬ 15<g.b.I.length:=by omega
  have b5:¬ 60<g.es.length:=by omega
  have b6:¬ 15<g.S.B.length:=by omega
  have b7:¬ 20<g.S.L.length:=by omega
  have b8:¬ 15<g.li.length:=by omega
  rw [decide_eq_false b1,decide_eq_false b2,decide_eq_false b3,decide_eq_false b4,decide_eq_false b5,decide_eq_false b6,decide_eq_false b7,decide_eq_false b8,e9]
  simp only [Bool.false_or]
  exact congrArg Value.bool (decide_eq_decide.2 (by omega))
set_option maxRecDepth 100000 in
theorem ZG (h:GaR σ W g) (hn:Abt g):Af prog 13 #[W.v g] σ fun v σ'=>∃ W':GaW,v=W'.v g/\Hp.Sub σ σ'/\GaR σ' W' g:=by
 apply Pw
 unfold Jj
 have hB:=hn.B
 have hq:Af prog 38 #[.agg #[W.r.v,aD g.w]] σ fun v σ'=>∃ r':SL,v=.agg #[r'.v,aD g.w]/\Ak 77 sB σ r'.A r'.n r'.c (g.B.map Kv) σ':=Aai h.ev (by omega)
 refine AW (aV 38) hq ?_
 rintro v σ2 ⟨r',rfl,hor⟩
 have hs2:=hor.sub
 have hrr:=hor.rd
 have h2:=h.sub hs2
 clear hor hq
 refine ⟨_,_,_,_,rfl,Ah fun J7 h7=>?_⟩
 have k7:∀ (w:BkW) τ,Hp.Sub σ2 τ->BkR τ w g.b->J7 r'.A r'.n r'.c g.w w.r.A w.r.n w.r.c w.k.A w.k.n w.k.c w.i.A w.i.n w.i.c W.e.A W.e.n W.e.c g.day W.s.b.A W.s.b.n W.s.b.c W.s.l.A W.s.l.n W.s.l.c g.S.p g.S.h g.S.v W.li.A W.li.n W.li.c W.em.A W.em.n W.em.c τ:=by
  intro w τ hs hb
  have h3:=h2.sub hs
  have hr3:=hrr.sub hs
  rw [h7]
  intro _
  refine ⟨g.es,h3.k.e,AY (by simp;have:=hn.es;omega) ⟨g.S.B,h3.s.b,AY (by simp;have:=hn.sB;omega) ⟨g.S.L,h3.s.l,AY (by simp;have:=hn.sL;omega) ⟨g.li,h3.li,AY (by simp;have:=hn.li;omega) ⟨g.em,h3.em,AY (by simp;have:=hn.em;omega) ?_⟩⟩⟩⟩⟩
  intro A1 n1 c1 s3 o1 A2 n2 c2 s4 o2 A3 n3 c3 s5 o3 A4 n4 c4 s6 o4 A5 n5 c5 s7 o5
  have t5:=o5.sub
  have t4:=o4.sub.trans t5
  have t3:=o3.sub.trans t4
  have t2:=o2.sub.trans t3
  have t1:=o1.sub.trans t2
  refine Al ⟨⟨r',w,⟨A1,n1,c1⟩,⟨⟨A2,n2,c2⟩,⟨A3,n3,c3⟩⟩,⟨A4,n4,c4⟩,⟨A5,n5,c5⟩⟩,rfl,hs2.trans (hs.trans t1),⟨hr3.sub t1,⟨hb.sub t1,o1.rd.sub t2⟩,⟨o2.rd.sub t3,o3.rd.sub t4⟩,o4.rd.sub t5,o5.rd⟩⟩
 have eR:(List.length ([]:List (Int×Int×Int×Bool))+g.b.R.length)<=4294967296:=by simp;have:=hn.R;omega
 have eK:(List.length ([]:List Int)+g.b.K.length)<=4294967296:=by simp;have:=hn.K;omega
 have eI:(List.length ([]:List Int)+g.b.I.length)<=4294967296:=by simp;have:=hn.I;omega
 have kx:exl 270 [.int .i64,.int .i64,.int .i64,.bool] (([]:List (Int×Int×Int×Bool))++g.b.R) σ2 (fun A40 l40 c40 s41=>exl 3 aM (([]:List Int)++g.b.K) s41 (fun A42 l42 c42 s43=>exl 3 aM (([]:List Int)++g.b.I) s43 (fun A44 l44 c44 s45=>
   J7 r'.A r'.n r'.c g.w A40 l40 c40 A42 l42 c42 A44 l44 c44 W.e.A W.e.n W.e.c g.day W.s.b.A W.s.b.n W.s.b.c W.s.l.A W.s.l.n W.s.l.c g.S.p g.S.h g.S.v W.li.A W.li.n W.li.c W.em.A W.em.n W.em.c s45))):=by
  intro A1 n1 c1 s3 o1 A2 n2 c2 s4 o2 A3 n3 c3 s5 o3
  exact k7 ⟨⟨A1,n1,c1⟩,⟨A2,n2,c2⟩,⟨A3,n3,c3⟩⟩ _ (o1.sub.trans (o2.sub.trans o3.sub)) ⟨o1.rd.sub (o2.sub.trans o3.sub),o2.rd.sub o3.sub,o3.rd⟩
 repeat' first
  | exact ⟨g.b.K,h2.k.b.k,AY eK ⟨g.b.I,h2.k.b.i,AY eI kx⟩⟩
  | refine ⟨g.b.R,h2.k.b.r,AY eR ?_⟩
  | refine And.intro ?_ ?_
theorem AaE:Af prog 30 #[] σ fun v σ'=>∃ (W:GaW) (l:SL) (ws:Nat->SL),v=.tuple #[W.v N5,l.v]/\Hp.Sub σ σ'/\GaR σ' W N5/\EvR σ' W.r exB l ws exG:=by
 refine Mj _ _ ?_
 unfold FB
 refine AW (aV 67) Wd ?_
 rintro v σ2 ⟨r,l,ws,rfl,hs,he⟩
 refine ⟨_,_,_,_,_,_,_,rfl,?_⟩
 intro A6 n6 c6 s7 o6 A8 n8 c8 s9 o8 A10 n10 c10 s11 o10 A12 n12 c12 s13 o12 A14 n14 c14 s15 o14 A16 n16 c16 s17 o16 A18 n18 c18 s19 o18
 have t18:=o18.sub
 have t16:=o16.sub.trans t18
 have t14:=o14.sub.trans t16
 have t12:=o12.sub.trans t14
 have t10:=o10.sub.trans t12
 have t8:=o8.sub.trans t10
 have t6:=o6.sub.trans t8
 refine Al ⟨⟨r,⟨sl0,⟨A6,n6,c6⟩,⟨A8,n8,c8⟩⟩,⟨A14,n14,c14⟩,⟨⟨A10,n10,c10⟩,⟨A12,n12,c12⟩⟩,⟨A16,n16,c16⟩,⟨A18,n18,c18⟩⟩,l,ws,rfl,hs.trans t6,?_,he.sub t6⟩
 exact ⟨(he.sub t6).r,⟨⟨⟨rfl,.inl rfl⟩,o6.rd.sub t8,o8.rd.sub t10⟩,o14.rd.sub t16⟩,⟨o10.rd.sub t12,o12.rd.sub t14⟩,o16.rd.sub t18,o18.rd⟩
theorem Wp:Af prog 11 #[] σ fun v σ'=>v=.bool true/\σ'=σ:=by
 refine OS _ _ ?_
 unfold HB
 refine AW (aV 30) AaE ?_
 rintro v σ2 ⟨W,l,ws,rfl,hs,hg,he⟩
 refine ⟨_,_,_,_,_,_,_,_,_,_,_,_,_,_,_,_,_,_,_,_,_,_,_,_,_,_,_,_,_,_,_,_,_,_,_,rfl,?_⟩
 refine AW (aV 31) (XP hg) ?_
 rintro v s19 ⟨A,n,c,rfl,ho⟩
 have e1:N5.opn=[0]:=(if_pos RI).trans P1
 have ho:Ak 3 aM σ2 A n c ([0]:List Int) s19:=(congrArg (fun z:List Int=>Ak 3 aM σ2 A n c z s19) e1).mp ho
 have hrd:RdS aM s19 A n ([0]:List Int):=ho.RdI
 have hl:=hrd.lenI
 have hl:n=1:=hl
 refine ⟨_,_,_,_,rfl,?_⟩
 refine AW (aV 23) (RL (hg.sub ho.sub) (he.sub ho.sub)) ?_
 rintro v s23 ⟨rfl,rfl⟩
 rw [Zm,QK,RI]
 refine ⟨_,_,rfl,AF (fun _=>AF (fun _=>AF (fun _=>EJ hrd (by omega) (by decide) (AF (fun _=>Bm (hs.trans ho.sub) ⟨rfl,rfl⟩) (fun h=>absurd rfl h))) (fun h=>absurd (by rw [hl];rfl) h)) (fun h=>absurd rfl h)) (fun h=>absurd rfl h)⟩
theorem Lg {K:Bool->Hp->Prop} (h:K true σ):aC 11 #[] σ fun v σ'=>∃ t:Bool,(v=.bool t/\K t σ'):=clB (aV 11) Wp h
end
end Go.Proofs.YtoelhdjloaknbaaGreat
