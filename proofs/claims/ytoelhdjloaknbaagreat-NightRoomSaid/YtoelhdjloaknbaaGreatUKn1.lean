/- What this claim rests on. -/
import Derived.Test.YtoelhdjloaknbaaGreatUKa1
import Derived.Test.YtoelhdjloaknbaaGreatUNc1
namespace Go.Proofs.YtoelhdjloaknbaaGreat
set_option maxRecDepth 100000
open Go.RowKit Go.ChangeShapes Go.WideShapes Go.Deep Go.Joins Go.Proofs.Tryz
theorem X9:Ld prog 270 sRu:=Ld.struct Tryz.underlying270 (by kernel_rfl) (by kernel_rfl) (by kernel_rfl)
theorem WA:Ld prog 136 sEn:=Ld.struct Tryz.underlying136 (by kernel_rfl) (by kernel_rfl) (by kernel_rfl)
theorem WL:Ld prog 138 s4:=Ld.struct Tryz.underlying138 (by kernel_rfl) (by kernel_rfl) (by kernel_rfl)
theorem Ys:Ld prog 140 s4:=Ld.struct Tryz.underlying140 (by kernel_rfl) (by kernel_rfl) (by kernel_rfl)
section
variable {H:Type} {enc:TypeId×Value->H} {W:World} {sp:Nat->Bool} {hd:Bool} {n:Nat}
theorem EA {cs:List Value} {i w:Nat} {v:Value} (hw:w=1) (h:cs[i]? = some v):(cs.drop i).take w=[v]:=by
 subst hw
 have hi:i<cs.length:=(List.getElem?_eq_some_iff.1 h).1
 rw [List.drop_eq_getElem_cons hi,List.take_succ_cons,List.take_zero]
 rw [List.getElem?_eq_getElem hi] at h
 cases h
 rfl
theorem XZ {c0 c1:Value} {y:DataW H×List MemPlace} (h:DataW.trod enc prog W 0 sp hd n 24 [c0,c1]=some y):∃ (r:SL) (w:Int) (B:List BthG),c0=r.v/\c1=aD w/\RdS sB (Ez W) r.A r.n (B.map Kv):=by
 obtain ⟨y0,y1,m,_,_,h0,h1⟩:=trod_struct2 Tryz.underlying24 h
 rw [EA (show prog.cellsOf 22=1 by kernel_rfl) (show [c0,c1][0]? = some c0 from rfl)] at h0
 rw [EA (show prog.cellsOf 3=1 by kernel_rfl) (show [c0,c1][1]? = some c1 from rfl)] at h1
 obtain ⟨A,k,c,xs,rfl,_,hr⟩:=Gl Tryz.underlying22 V4 (by kernel_rfl) (by decide) h0
 obtain ⟨w,e1,_⟩:=DataW.trod_int Tryz.underlying3 h1
 cases e1
 refine ⟨⟨A,k,c⟩,w,List.map (fun x:Int×Int×Int×Int×Bool=>⟨x.1,x.2.1,x.2.2.1,x.2.2.2.1,x.2.2.2.2⟩) xs,rfl,rfl,?_⟩
 exact (congrArg (fun z:List (Int×Int×Int×Int×Bool)=>RdS sB (Ez W) A k z) (Zu xs)).mpr hr
theorem Wf {c0 c1 c2:Value} {y:DataW H×List MemPlace} (h:DataW.trod enc prog W 0 sp hd n 28 [c0,c1,c2]=some y):∃ (w:BkW) (b:Bok),c0=w.r.v/\c1=w.k.v/\c2=w.i.v/\BkR (Ez W) w b:=by
 obtain ⟨y0,y1,y2,m,_,_,h0,h1,h2⟩:=trod_struct3 Tryz.underlying28 h
 rw [EA (show prog.cellsOf 25=1 by kernel_rfl) (show [c0,c1,c2][0]? = some c0 from rfl)] at h0
 rw [EA (show prog.cellsOf 26=1 by kernel_rfl) (show [c0,c1,c2][1]? = some c1 from rfl)] at h1
 rw [EA (show prog.cellsOf 26=1 by kernel_rfl) (show [c0,c1,c2][2]? = some c2 from rfl)] at h2
 obtain ⟨A,k,c,R,rfl,_,hr⟩:=Gl Tryz.underlying25 X9 (by kernel_rfl) (by decide) h0
 obtain ⟨A1,k1,c1',K,rfl,_,hk⟩:=GL h1
 obtain ⟨A2,k2,c2',I,rfl,_,hi⟩:=GL h2
 exact ⟨⟨⟨A,k,c⟩,⟨A1,k1,c1'⟩,⟨A2,k2,c2'⟩⟩,⟨R,K,I⟩,rfl,rfl,rfl,⟨hr,hk,hi⟩⟩
theorem TJ {c0 c1 c2 c3 c4:Value} {y:DataW H×List MemPlace} (h:DataW.trod enc prog W 0 sp hd n 33 [c0,c1,c2,c3,c4]=some y):∃ (w:SuW) (S:Sup),c0=w.b.v/\c1=w.l.v/\c2=aD S.p/\c3=aD S.h/\c4=aD S.v/\SuR (Ez W) w S:=by
 obtain ⟨xs,m,_,_,_,hxl,hg⟩:=DataW.trod_struct Tryz.underlying33 h
 have hx:∀ i,i<5->xs[i]? = some (xs[i]?.getD (.agg [],[])):=fun i hi=>by
  have:i<xs.length:=by rw [hxl];exact hi
  rw [List.getElem?_eq_getElem this]
  rfl
 have g0:=hg 0 _ rfl
 have g1:=hg 1 _ rfl
 have g2:=hg 2 _ rfl
 have g3:=hg 3 _ rfl
 have g4:=hg 4 _ rfl
 rw [hx 0 (by omega)] at g0
 rw [hx 1 (by omega)] at g1
 rw [hx 2 (by omega)] at g2
 rw [hx 3 (by omega)] at g3
 rw [hx 4 (by omega)] at g4
 have k3:prog.cellsOf 3=1:=by kernel_rfl
 have g0:DataW.trod enc prog W 0 sp hd m 30 (([c0,c1,c2,c3,c4].drop 0).take (prog.cellsOf 30))=_:=g0
 have g1:DataW.trod enc prog W 0 sp hd m 31 (([c0,c1,c2,c3,c4].drop 1).take (prog.cellsOf 31))=_:=g1
 have g2:DataW.trod enc prog W 0 sp hd m 3 (([c0,c1,c2,c3,c4].drop 2).take (prog.cellsOf 3))=_:=g2
 have g3:DataW.trod enc prog W 0 sp hd m 3 (([c0,c1,c2,c3,c4].drop 3).take (prog.cellsOf 3))=_:=g3
 have g4:DataW.trod enc prog W 0 sp hd m 3 (([c0,c1,c2,c3,c4].drop 4).take (prog.cellsOf 3))=_:=g4
 rw [EA (show prog.cellsOf 30=1 by kernel_rfl) (show [c0,c1,c2,c3,c4][0]? = some c0 from rfl)] at g0
 rw [EA (show prog.cellsOf 31=1 by kernel_rfl) (show [c0,c1,c2,c3,c4][1]? = some c1 from rfl)] at g1
 rw [EA k3 (show [c0,c1,c2,c3,c4][2]? = some c2 from rfl)] at g2
 rw [EA k3 (show [c0,c1,c2,c3,c4][3]? = some c3 from rfl)] at g3
 rw [EA k3 (show [c0,c1,c2,c3,c4][4]? = some c4 from rfl)] at g4
 obtain ⟨A,k,c,B,rfl,_,hb⟩:=Gl Tryz.underlying30 WL (by kernel_rfl) (by decide) g0
 obtain ⟨A1,k1,c1',L,rfl,_,hl⟩:=Gl Tryz.underlying31 Ys (by kernel_rfl) (by decide) g1
 obtain ⟨p,e2,_⟩:=DataW.trod_int Tryz.underlying3 g2
 obtain ⟨h',e3,_⟩:=DataW.trod_int Tryz.underlying3 g3
 obtain ⟨v,e4,_⟩:=DataW.trod_int Tryz.underlying3 g4
 cases e2
 cases e3
 cases e4
 exact ⟨⟨⟨A,k,c⟩,⟨A1,k1,c1'⟩⟩,⟨B,L,p,h',v⟩,rfl,rfl,rfl,rfl,rfl,⟨hb,hl⟩⟩
theorem Zj {cs:Array Value} (h:cs.size=14):∃ c0 c1 c2 c3 c4 c5 c6 c7 c8 c9 c10 c11 c12 c13,cs=#[c0,c1,c2,c3,c4,c5,c6,c7,c8,c9,c10,c11,c12,c13]:=by
 obtain ⟨l⟩:=cs
 match l,h with
 | [c0,c1,c2,c3,c4,c5,c6,c7,c8,c9,c10,c11,c12,c13],_=>exact ⟨_,_,_,_,_,_,_,_,_,_,_,_,_,_,rfl⟩
theorem Wx {v:Value} {d:DataW H} {p:List MemPlace} {b0:Nat} (hv:Value.okWide prog W .any b0 35 v) (h:DataW.Trod enc prog W 0 sp hd 35 v d p):∃ (w:GaW) (g:Gal),v=w.v g/\w.e.n<=w.e.c/\GaR (Ez W) w g:=by
 obtain ⟨cs,rfl,hsz⟩:=okWide_struct Tryz.underlying35 hv
 obtain ⟨c0,c1,c2,c3,c4,c5,c6,c7,c8,c9,c10,c11,c12,c13,rfl⟩:=Zj (hsz.trans (by kernel_rfl))
 obtain ⟨fuel,hf⟩:=h
 obtain ⟨xs,m,_,_,_,hxl,hg⟩:=DataW.trod_struct Tryz.underlying35 hf
 have hx:∀ i,i<7->xs[i]? = some (xs[i]?.getD (.agg [],[])):=fun i hi=>by
  have:i<xs.length:=by rw [hxl];exact hi
  rw [List.getElem?_eq_getElem this]
  rfl
 have g0:=hg 0 _ rfl
 have g1:=hg 1 _ rfl
 have g2:=hg 2 _ rfl
 have g3:=hg 3 _ rfl
 have g4:=hg 4 _ rfl
 have g5:=hg 5 _ rfl
 have g6:=hg 6 _ rfl
 rw [hx 0 (by omega)] at g0
 rw [hx 1 (by omega)] at g1
 rw [hx 2 (by omega)] at g2
 rw [hx 3 (by omega)] at g3
 rw [hx 4 (by omega)] at g4
 rw [hx 5 (by omega)] at g5
 rw [hx 6 (by omega)] at g6
 have g0:DataW.trod enc prog W 0 sp hd m 24 (([c0,c1,c2,c3,c4,c5,c6,c7,c8,c9,c10,c11,c12,c13].drop 0).take (prog.cellsOf 24))=_:=g0
 have g1:DataW.trod enc prog W 0 sp hd m 28 (([c0,c1,c2,c3,c4,c5,c6,c7,c8,c9,c10,c11,c12,c13].drop 2).take (prog.cellsOf 28))=_:=g1
 have g2:DataW.trod enc prog W 0 sp hd m 29 (([c0,c1,c2,c3,c4,c5,c6,c7,c8,c9,c10,c11,c12,c13].drop 5).take (prog.cellsOf 29))=_:=g2
 have g3:DataW.trod enc prog W 0 sp hd m 3 (([c0,c1,c2,c3,c4,c5,c6,c7,c8,c9,c10,c11,c12,c13].drop 6).take (prog.cellsOf 3))=_:=g3
 have g4:DataW.trod enc prog W 0 sp hd m 33 (([c0,c1,c2,c3,c4,c5,c6,c7,c8,c9,c10,c11,c12,c13].drop 7).take (prog.cellsOf 33))=_:=g4
 have g5:DataW.trod enc prog W 0 sp hd m 26 (([c0,c1,c2,c3,c4,c5,c6,c7,c8,c9,c10,c11,c12,c13].drop 12).take (prog.cellsOf 26))=_:=g5
 have g6:DataW.trod enc prog W 0 sp hd m 26 (([c0,c1,c2,c3,c4,c5,c6,c7,c8,c9,c10,c11,c12,c13].drop 13).take (prog.cellsOf 26))=_:=g6
 rw [show prog.cellsOf 24=2 by kernel_rfl] at g0
 rw [show prog.cellsOf 28=3 by kernel_rfl] at g1
 rw [EA (show prog.cellsOf 29=1 by kernel_rfl) (show [c0,c1,c2,c3,c4,c5,c6,c7,c8,c9,c10,c11,c12,c13][5]? = some c5 from rfl)] at g2
 rw [EA (show prog.cellsOf 3=1 by kernel_rfl) (show [c0,c1,c2,c3,c4,c5,c6,c7,c8,c9,c10,c11,c12,c13][6]? = some c6 from rfl)] at g3
 rw [show prog.cellsOf 33=5 by kernel_rfl] at g4
 rw [EA (show prog.cellsOf 26=1 by kernel_rfl) (show [c0,c1,c2,c3,c4,c5,c6,c7,c8,c9,c10,c11,c12,c13][12]? = some c12 from rfl)] at g5
 rw [EA (show prog.cellsOf 26=1 by kernel_rfl) (show [c0,c1,c2,c3,c4,c5,c6,c7,c8,c9,c10,c11,c12,c13][13]? = some c13 from rfl)] at g6
 obtain ⟨r,w,B,rfl,rfl,hr⟩:=XZ (show DataW.trod enc prog W 0 sp hd m 24 [c0,c1]=_ from g0)
 obtain ⟨bw,b,rfl,rfl,rfl,hb⟩:=Wf (show DataW.trod enc prog W 0 sp hd m 28 [c2,c3,c4]=_ from g1)
 obtain ⟨A,k,c,es,rfl,hc,he⟩:=Gl Tryz.underlying29 WA (by kernel_rfl) (by decide) g2
 obtain ⟨day,e3,_⟩:=DataW.trod_int Tryz.underlying3 g3
 obtain ⟨sw,S,rfl,rfl,rfl,rfl,rfl,hs⟩:=TJ (show DataW.trod enc prog W 0 sp hd m 33 [c7,c8,c9,c10,c11]=_ from g4)
 obtain ⟨A5,k5,c5',li,rfl,_,hli⟩:=GL g5
 obtain ⟨A6,k6,c6',em,rfl,_,hem⟩:=GL g6
 cases e3
 exact ⟨⟨r,bw,⟨A,k,c⟩,sw,⟨A5,k5,c5'⟩,⟨A6,k6,c6'⟩⟩,⟨B,w,b,es,day,S,li,em⟩,rfl,hc,⟨hr,⟨hb,he⟩,hs,hli,hem⟩⟩
end
theorem ZM:mapsRowed prog=true:=by kernel_rfl
theorem W6:(prog.stops==[])=true:=by kernel_rfl
theorem W2:(prog.stopKnobs==[])=true:=by kernel_rfl
theorem X3:(Rows.nightRunsRow.plainKeys==prog.plainKeys)=true:=by kernel_rfl
theorem XS:prog.stopsHeard=true:=by kernel_rfl
theorem YC:prog.mayEnter=true:=by kernel_rfl
theorem Zv:(Rows.nightRunsRow.lifted==prog.liftsFinal)=true:=by kernel_rfl
theorem Zn:(prog.make==some Rows.nightRunsRow.make)=true:=by kernel_rfl
theorem Bp {a b:Bool} (ha:a=true) (hb:b=true):(a&&b)=true:=by rw [ha,hb];rfl
theorem V6 {H:Type} {enc:TypeId×Value->H} {W:World} {sp:Nat->Bool} {hd:Bool} {v:Value} {d:DataW H} {p:List MemPlace} {b0:Nat} (hv:Value.okWide prog W .any b0 3 v) (_:DataW.Trod enc prog W 0 sp hd 3 v d p):∃ n:Int,v=aD n:=by
 obtain ⟨i,rfl⟩:=okWide_int Tryz.underlying3 hv
 exact ⟨i,rfl⟩
end Go.Proofs.YtoelhdjloaknbaaGreat
