/- What this claim rests on. -/
import Derived.Test.YtoelhdjloaknbaaGreatUJa1
import Derived.Test.YtoelhdjloaknbaaGreatUB16
namespace Go.Proofs.YtoelhdjloaknbaaGreat
set_option maxRecDepth 100000
open Go.RowKit Go.ChangeShapes Go.WideShapes Go.Deep Go.Joins Go.Proofs.Tryz
theorem Tryz.own:ownKnob prog.godebug=none:=by kernel_rfl
theorem Tryz.laidOut:laidOutB prog=true:=by kernel_rfl
theorem Y9:Ld prog 3 aM:=Ld.int Tryz.underlying3
theorem V4:Ld prog 77 sB:=Ld.struct Tryz.underlying77 (by kernel_rfl) (by kernel_rfl) (by kernel_rfl)
theorem Zu (xs:List (Int×Int×Int×Int×Bool)):List.map (fun b:BthG=>(b.seats,b.price,b.cycle,b.pause,b.fill)) (List.map (fun x:Int×Int×Int×Int×Bool=>(⟨x.1,x.2.1,x.2.2.1,x.2.2.2.1,x.2.2.2.2⟩:BthG)) xs)=xs:=by
 rw [List.map_map]
 exact List.map_id _
theorem VX (xs:List (Int×Int×Int×(aA×Nat×Nat)×Int)) (F:Nat->List Int):∃ (ws:Nat->SL) (G:List Grp),G.mapIdx (fun i g=>(g.came,g.size,g.tokens,((ws i).A,(ws i).n,(ws i).c),g.patience))=xs /\
  ∀ i,(h':i<G.length)->∃ h:i<xs.length,ws i=⟨xs[i].2.2.2.1.1,xs[i].2.2.2.1.2.1,xs[i].2.2.2.1.2.2⟩/\G[i].wants=F i:=by
 refine ⟨fun i=>(xs[i]?.map fun x=>(⟨x.2.2.2.1.1,x.2.2.2.1.2.1,x.2.2.2.1.2.2⟩:SL)).getD ⟨none,0,0⟩,xs.mapIdx fun i x=>(⟨x.1,x.2.1,x.2.2.1,F i,x.2.2.2.2⟩:Grp),?_,fun i h'=>?_⟩
 ·apply List.ext_getElem
  ·simp
  ·intro i h1 h2
   simp [h2]
 ·have h:i<xs.length:=by simpa using h'
  exact ⟨h,by simp [h],by simp⟩
section
variable {H:Type} {enc:TypeId×Value->H} {W:World} {sp:Nat->Bool} {hd:Bool}
theorem UJ {P:Program} {t e:TypeId} {ss:List Sh} {Q:TyR ss->Prop} {fuel:Nat} {v:Value} {y:DataW H×List MemPlace} (ht:P.underlying t=some (.slice e)) (he:∀ (n:Nat) (sp:Nat->Bool) (hd:Bool) (cs:List Value) (y:DataW H×List MemPlace),DataW.trod enc P W 0 sp hd n e cs=some y->∃ x:TyR ss,cs=BO ss x/\Q x) (hC:P.cellsOf e=ss.length) (FR:0<ss.length)
  (h:DataW.trod enc P W 0 sp hd fuel t [v]=some y):∃ A n c xs,v=aN A n c/\n<=c/\RdS ss (Ez W) A n xs/\∀ x∈xs,Q x:=by
 rcases open_slice ht h with ⟨h0,_⟩ | ⟨a,len,cap,m,n,D,Pl,hcs,_,hlc,_,hm,_,hel⟩
 ·cases h0
  exact ⟨none,0,0,[],rfl,Nat.le_refl _,⟨rfl,.inl rfl⟩,fun x hx=>(by cases hx)⟩
 ·cases hcs
  have hml:len<=m:=by rw [hm];split<;>omega
  have hx:∀ i,i<len->∃ x:TyR ss,W.cells? 0 (a.add (i*P.cellsOf e)) (P.cellsOf e)=some (BO ss x)/\Q x:=by
   intro i hi
   obtain ⟨cs',h1,h2⟩:=hel i (by omega)
   obtain ⟨x,rfl,hq⟩:=he _ _ _ _ _ h2
   exact ⟨x,h1,hq⟩
  cases len with
  | zero=>exact ⟨_,_,_,[],rfl,Nat.zero_le _,⟨rfl,.inl rfl⟩,fun x hx=>(by cases hx)⟩
  | succ len=>
   obtain ⟨x0,hx0,_⟩:=hx 0 (by omega)
   obtain ⟨X,hX'⟩:=@choose_lt _ ⟨x0⟩ (len+1) _ hx
   have hX:=fun i hi=>(hX' i hi).1
   have hcell:∀ i j,i<len+1->j<ss.length->W.cell? ((a.add (i*ss.length)).add j)=(BO ss (X i))[j]? := by
    intro i j hi hj
    have h1:=hX i hi
    rw [hC] at h1
    exact (World.cells?_some h1).2.2 j hj
   have hc0:=hcell 0 0 (by omega) FR
   have e0:(a.add (0*ss.length)).add 0=a:=by
    rw [Nat.zero_mul]
    rfl
   rw [e0] at hc0
   have hs0:(BO ss (X 0))[0]? = some ((BO ss (X 0))[0]'(by rw [Bv];exact FR)):=List.getElem?_eq_getElem _
   rw [hs0] at hc0
   have hc1:=hc0
   unfold World.cell? at hc1
   split at hc1
   ·rename_i c el f hb
    split at hc1
    ·cases hc1
    ·rename_i hspot
     have hsn:a.spot=none:=by
      cases e:a.spot with
      | none=>rfl
      | some _=>rw [e] at hspot;exact absurd rfl hspot
     refine ⟨some a,len+1,cap,(List.range (len+1)).map X,rfl,hlc,⟨by simp,.inr ⟨a.block,a.off,c,el,f,false,?_,QF hb,?_⟩⟩,fun x hx=>?_⟩
     ·obtain ⟨b,o,s⟩:=a
      cases hsn
      rfl
     ·intro i j hi hj
      simp only [List.length_map,List.length_range] at hi
      have h1:=hcell i j hi hj
      rw [NA hsn,NA rfl] at h1
      unfold World.cell? at h1
      simp only [hb] at h1
      simp only [List.getElem_map,List.getElem_range]
      rw [← h1]
      simp [Nat.add_assoc]
     ·obtain ⟨i,hi,rfl⟩:=List.mem_map.1 hx
      exact (hX' i (List.mem_range.1 hi)).2
   ·cases hc1
theorem UU {t e:TypeId} {v:Value} {d:DataW H} {p:List MemPlace} {b0:Nat} (ht:prog.underlying t=some (.slice e)) (hv:Value.okWide prog W .any b0 t v) (h:DataW.Trod enc prog W 0 sp hd t v d p):∃ n,DataW.trod enc prog W 0 sp hd n t [v]=some (d,p):=by
 obtain ⟨a,len,cap,rfl⟩:=okWide_slice ht hv
 exact h
theorem GL {n:Nat} {v:Value} {y:DataW H×List MemPlace} (h:DataW.trod enc prog W 0 sp hd n 26 [v]=some y):∃ A n c xs,v=aN A n c/\n<=c/\RdS aM (Ez W) A n xs:=
 Gl Tryz.underlying26 Y9 (by kernel_rfl) (by decide) h
def Abf (W:World) (x:TyR sG):Prop:=∃ ws:List Int,RdS aM (Ez W) x.2.2.2.1.1 x.2.2.2.1.2.1 ws
theorem WB {n:Nat} {cs:List Value} {y:DataW H×List MemPlace} (h:DataW.trod enc prog W 0 sp hd n 65 cs=some y):∃ x:TyR sG,cs=BO sG x/\Abf W x:=by
 obtain ⟨xs,m,_,_,hcl,hxl,hg⟩:=DataW.trod_struct Tryz.underlying65 h
 have h5:cs.length=5:=by rw [hcl];kernel_rfl
 match cs,h5 with
 | [c0,c1,c2,c3,c4],_=>
  have hx:∀ i,i<5->xs[i]? = some (xs[i]?.getD (.agg [],[])):=fun i hi=>by
   have:i<xs.length:=by rw [hxl];exact hi
   rw [List.getElem?_eq_getElem this]
   rfl
  have g0:=hg 0 _ rfl
  have g1:=hg 1 _ rfl
  have g2:=hg 2 _ rfl
  have g3:=hg 3 _ rfl
  have g4:=hg 4 _ rfl
  rw [hx 0 (by omega)] at g0
  rw [hx 1 (by omega)] at g1
  rw [hx 2 (by omega)] at g2
  rw [hx 3 (by omega)] at g3
  rw [hx 4 (by omega)] at g4
  have k3:prog.cellsOf 3=1:=by kernel_rfl
  have k32:prog.cellsOf 26=1:=by kernel_rfl
  have g0:DataW.trod enc prog W 0 sp hd m 3 (([c0,c1,c2,c3,c4].drop 0).take (prog.cellsOf 3))=_:=g0
  have g1:DataW.trod enc prog W 0 sp hd m 3 (([c0,c1,c2,c3,c4].drop 1).take (prog.cellsOf 3))=_:=g1
  have g2:DataW.trod enc prog W 0 sp hd m 3 (([c0,c1,c2,c3,c4].drop 2).take (prog.cellsOf 3))=_:=g2
  have g3:DataW.trod enc prog W 0 sp hd m 26 (([c0,c1,c2,c3,c4].drop 3).take (prog.cellsOf 26))=_:=g3
  have g4:DataW.trod enc prog W 0 sp hd m 3 (([c0,c1,c2,c3,c4].drop 4).take (prog.cellsOf 3))=_:=g4
  rw [k3] at g0 g1 g2 g4
  rw [k32] at g3
  obtain ⟨a0,e0,_⟩:=DataW.trod_int Tryz.underlying3 (show DataW.trod enc prog W 0 sp hd m 3 [c0]=_ from g0)
  obtain ⟨a1,e1,_⟩:=DataW.trod_int Tryz.underlying3 (show DataW.trod enc prog W 0 sp hd m 3 [c1]=_ from g1)
  obtain ⟨a2,e2,_⟩:=DataW.trod_int Tryz.underlying3 (show DataW.trod enc prog W 0 sp hd m 3 [c2]=_ from g2)
  obtain ⟨A,n',c',ws,e3,_,hw⟩:=GL (show DataW.trod enc prog W 0 sp hd m 26 [c3]=_ from g3)
  obtain ⟨a4,e4,_⟩:=DataW.trod_int Tryz.underlying3 (show DataW.trod enc prog W 0 sp hd m 3 [c4]=_ from g4)
  cases e0
  cases e1
  cases e2
  cases e3
  cases e4
  exact ⟨(a0,a1,a2,(A,n',c'),a4),rfl,ws,hw⟩
theorem S4 {v:Value} {d:DataW H} {p:List MemPlace} {b0:Nat} (hv:Value.okWide prog W .any b0 57 v) (h:DataW.Trod enc prog W 0 sp hd 57 v d p):∃ (l:SL) (ws:Nat->SL) (G:List Grp),v=l.v/\RdS sG (Ez W) l.A l.n (G.mapIdx (Fh ws))/\∀ i,(h:i<G.length)->RdS aM (Ez W) (ws i).A (ws i).n G[i].wants:=by
 obtain ⟨n,h⟩:=UU Tryz.underlying57 hv h
 obtain ⟨A,n,c,xs,rfl,_,hr,hq⟩:=UJ (Q:=Abf W) Tryz.underlying57 (fun n sp hd cs y h=>WB h) (by kernel_rfl) (by decide) h
 have hq':∀ i,i<xs.length->∃ w:List Int,∀ x:TyR sG,xs[i]? = some x->RdS aM (Ez W) x.2.2.2.1.1 x.2.2.2.1.2.1 w:=fun i hi=>by
  obtain ⟨w,hw⟩:=hq _ (List.getElem_mem hi)
  refine ⟨w,fun x hx=>?_⟩
  rw [List.getElem?_eq_getElem hi] at hx
  cases hx
  exact hw
 obtain ⟨F,hF⟩:=choose_lt hq'
 obtain ⟨ws,G,e1,e2⟩:=VX xs F
 refine ⟨⟨A,n,c⟩,ws,G,rfl,?_,fun i hi=>?_⟩
 ·exact (congrArg (fun z:List (Int×Int×Int×(aA×Nat×Nat)×Int)=>RdS sG (Ez W) A n z) e1).mpr hr
 ·obtain ⟨h1,h2,h3⟩:=e2 i hi
  have:=hF i h1 _ (List.getElem?_eq_getElem h1)
  rw [h2,h3]
  exact this
end
end Go.Proofs.YtoelhdjloaknbaaGreat
