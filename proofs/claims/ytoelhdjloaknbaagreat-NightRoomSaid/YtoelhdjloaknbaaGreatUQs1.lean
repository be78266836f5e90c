/- What this claim rests on. -/
import Derived.Test.YtoelhdjloaknbaaGreatUB13
import Derived.Test.YtoelhdjloaknbaaGreatUQs0
namespace Go.Proofs.YtoelhdjloaknbaaGreat
open Go.RowKit Go.Shelf Go.Sort Go.Lib Go.Proofs.Tryz
theorem Sat.aheadS {B:Nat} {w0 w:World} {M:List Nat} {σ:Hp} (h:Sat B w0 M σ w) (n:Nat):Sat B w0 M σ (Sort.ahead w n):=
 ⟨⟨h.below.os,h.below.tape,h.below.output,h.below.size,h.below.block⟩,h.base,h.marks,h.nodup,h.holds,Nat.le_add_right_of_le h.drew⟩
theorem Sat.grow {B:Nat} {w0 w:World} {M:List Nat} {σ:Hp} (h:Sat B w0 M σ w) (os:Array Obj):Sat B w0 M σ (Sort.grow w os):=by
 have key:∀ (k:Nat) (o:Obj),w.heap[k]? = some o->(w.heap++os)[k]? = some o:=fun k o e=>by
  have:=(Array.getElem?_eq_some_iff.1 e).1
  rw [Array.getElem?_append_left this]
  exact e
 refine ⟨⟨h.below.os,h.below.tape,h.below.output,?_,fun k hk=>?_⟩,h.base,fun m hm=>⟨key _ _ (h.marks m hm).1,(h.marks m hm).2⟩,h.nodup,fun b o rw e=>⟨key _ _ (h.holds b o rw e).1,(h.holds b o rw e).2⟩,h.drew⟩
 ·have:=h.below.size
  show w0.heap.size<=(w.heap++os).size
  rw [Array.size_append]
  omega
 ·rw [← h.below.block k hk]
  have h1:=h.base
  have h2:=h.below.size
  show (w.heap++os)[k]? = _
  rw [Array.getElem?_append_left (by omega)]
theorem Sat.mapB {B:Nat} {w0 w:World} {M:List Nat} {σ:Hp} (h:Sat B w0 M σ w) {b:Nat} {c:Array Value} {e:TypeId} {fr:Nat×Nat} (hb:σ b=some (.cells c e fr,true)) (f:Array Value->Array Value):Sat B w0 M (σ.ins b (.cells (f c) e fr)) (mapBlock w b f):=by
 have h1:=h.setObj hb (.cells (f c) e fr)
 have e1:({ w with heap:=w.heap.setIfInBounds b (.cells (f c) e fr) }:World)=mapBlock w b f:=by
  have hw:=(h.holds _ _ _ hb).1
  have hlt:=(Array.getElem?_eq_some_iff.1 hw).1
  unfold mapBlock
  congr 1
  apply Array.ext_getElem?
  intro i
  rw [Array.getElem?_setIfInBounds,Array.getElem?_modify]
  by_cases hi:b=i
  ·subst hi
   rw [if_pos rfl,if_pos rfl,if_pos hlt,hw]
   rfl
  ·rw [if_neg hi,if_neg hi]
 rw [e1] at h1
 exact h1
theorem O7 {P:Program} {f:FuncId} {args:Array Value} {e:TypeId} {ss:List Sh} {s0:Hp} {A:aA} {n c b off:Nat} {ys:List (TyR ss)} {cells:Array Value} {F:Array Value->Array Value}
  (hA:A=some ⟨b,off,none⟩) (hn:n=ys.length) (hnc:n<=c) (hb:s0 b=none) (hsz:off+c*ss.length<=cells.size) (hF:(F cells).size=cells.size) (hr:Row (F cells) off ss ys)
  (hc:∀ w:World,w.heap[b]? = some (.cells cells e (0,0))->Calls P f args w fun x w'=>x=.returned (.tuple #[])/\∃ (q:Nat) (os:Array Obj),w'=Sort.grow (mapBlock (Sort.ahead w q) b F) os):
  Af P f args (s0.ins b (.cells cells e (0,0))) fun v σ'=>v=.tuple #[]/\Ak e ss s0 A n c ys σ':=by
 intro σc hs B w0 M w hw
 have hbc:σc b=some (.cells cells e (0,0),true):=hs _ _ (Hp.ins_same ..)
 refine (hc w (hw.holds _ _ _ hbc).1).mono ?_
 rintro x w' ⟨rfl,q,os,rfl⟩
 refine ⟨.tuple #[],σc.ins b (.cells (F cells) e (0,0)),rfl,⟨s0.ins b (.cells (F cells) e (0,0)),⟨rfl,.inr ⟨b,off,F cells,hA,hn,hnc,hb,rfl,by omega,hr⟩⟩,?_,?_⟩,((hw.aheadS q).mapB hbc F).grow os⟩
 ·intro k y hk
  by_cases e1:k=b
  ·subst e1;rw [Hp.ins_same] at hk ⊢;exact hk
  ·rw [Hp.ins_ne _ e1] at hk ⊢
   exact hs _ _ (by rw [Hp.ins_ne _ e1];exact hk)
 ·intro k y h1 h2
  have e1:k≠b:=fun e1=>by rw [e1,Hp.ins_same] at h1;cases h1
  rw [Hp.ins_ne _ e1] at h1
  rw [Hp.ins_ne _ e1,Hp.ins_ne _ e1]
  exact ⟨h2,h1⟩
theorem KG {P:Program} {f:FuncId} {args:Array Value} {σ:Hp} (hc:∀ w:World,Calls P f args w fun x w'=>x=.returned (.tuple #[])/\w'=w):Af P f args σ fun v σ'=>v=.tuple #[]/\σ'=σ:=by
 intro σc hs B w0 M w hw
 refine (hc w).mono ?_
 rintro x w' ⟨rfl,rfl⟩
 exact ⟨.tuple #[],σc,rfl,⟨σ,⟨rfl,rfl⟩,Frm.refl hs⟩,hw⟩
theorem WH {P:Program} {g:FuncId} {args:Array Value} {r:Value} (h:Af P g args (fun _=>none) fun v _=>v=r) (W:World):Calls P g args W fun e w'=>e=.returned r/\∃ (q:Nat) (os:Array Obj),w'=Sort.grow (W.drewN q) os:=by
 refine (h (fun _=>none) (Hp.Sub.refl _) W.heap.size W [] W ⟨Below.refl _ _,Nat.le_refl _,fun m hm=>(by cases hm),List.nodup_nil,fun b o rw h=>(by cases h),Nat.le_refl _⟩).mono ?_
 rintro e w' ⟨v,σ',rfl,⟨_,rfl,_⟩,hs⟩
 refine ⟨rfl,w'.drawn-W.drawn,w'.heap.extract W.heap.size w'.heap.size,?_⟩
 obtain ⟨b1,b2,b3,b4,b5⟩:=hs.below
 have hd:=hs.drew
 have hh:w'.heap=W.heap++w'.heap.extract W.heap.size w'.heap.size:=by
  apply Array.ext_getElem?
  intro i
  rw [Array.getElem?_append]
  by_cases hi:i<W.heap.size
  ·rw [if_pos hi];exact b5 i hi
  ·rw [if_neg hi,Array.getElem?_extract]
   by_cases h2:i<w'.heap.size
   ·rw [if_pos (by omega)]
    congr 1
    omega
   ·rw [if_neg (by omega),Array.getElem?_eq_none (by omega)]
 unfold Sort.grow World.drewN
 obtain ⟨hp',tp',dr',os',ou'⟩:=w'
 obtain ⟨hp,tp,dr,os,ou⟩:=W
 simp only at b1 b2 b3 b4 hd hh ⊢
 subst b1 b2 b3
 congr 1
 omega
theorem Uq {α:Type} [Inhabited α] {enc:α->List Value} {ss:List Sh} {tr:α->TyR ss} (he:∀ x,enc x=BO ss (tr x)) {w:World} {b off:Nat} {cells:Array Value} {e:TypeId} {d:List α} (hw:w.heap[b]? = some (.cells cells e (0,0))) (hr:Row cells off ss (d.map tr)):HoldsK enc ss.length w b off d.toArray:=by
 intro j hj
 rw [size_flatK] at hj
 have hj':j<(d.map tr).length*ss.length:=by simpa using hj
 have h1:=hr.to_flat j hj'
 have hw0:0<ss.length:=by
  rcases Nat.eq_zero_or_pos ss.length with e | e
  ·rw [e] at hj;omega
  ·exact e
 have hd1:j / ss.length<d.length:=Nat.div_lt_of_lt_mul (by rw [Nat.mul_comm];simpa using hj)
 have hd2:=Nat.mod_lt j hw0
 have h2:(CN ss (d.map tr))[j]? = some (id (flatK enc ss.length d.toArray)[j]!):=by
  rw [get_flatK _ _ _ _ hj]
  have h3:j / ss.length*ss.length+j%ss.length=j:=by rw [Nat.mul_comm];exact Nat.div_add_mod j ss.length
  have h4:=Ky ss (d.map tr) (j / ss.length) (j%ss.length) (by simpa using hd1) hd2
  rw [h3] at h4
  rw [h4]
  have h5:d.toArray[j / ss.length]! = d[j / ss.length]:=by rw [getElem!_pos _ _ (by simpa using hd1)];rfl
  rw [h5,he]
  simp only [List.getElem_map,id]
  have h6:j%ss.length<(BO ss (tr d[j / ss.length])).length:=by rw [Bv];exact hd2
  rw [List.getElem?_eq_getElem h6,getElem!_pos (BO ss (tr d[j / ss.length])) (j%ss.length) h6]
 refine ⟨?_,?_⟩
 ·unfold World.cell?
  rw [hw]
  show (if _ then none else cells[off+j]?)=_
  rw [h1,h2]
  rfl
 ·unfold World.frozen?
  rw [hw]
  show (decide (0<=off+j)&&decide (off+j<0))=false
  simp
theorem YE {α:Type} [Inhabited α] {enc:α->List Value} {ss:List Sh} {tr:α->TyR ss} (he:∀ x,enc x=BO ss (tr x)) {off:Nat} {cells:Array Value} {d:List α} (hsz:off+d.length*ss.length<=cells.size):(putCells id off (flatK enc ss.length d.toArray) cells).size=cells.size/\Row (putCells id off (flatK enc ss.length d.toArray) cells) off ss (d.map tr):=by
 refine ⟨by simp [putCells],Row.of_flat fun i hi=>?_⟩
 have hi':i<d.length*ss.length:=by simpa using hi
 have hw0:0<ss.length:=by
  rcases Nat.eq_zero_or_pos ss.length with e | e
  ·rw [e] at hi';omega
  ·exact e
 have hd1:i / ss.length<d.length:=Nat.div_lt_of_lt_mul (by rw [Nat.mul_comm];exact hi')
 have hd2:=Nat.mod_lt i hw0
 unfold putCells
 rw [Array.getElem?_mapIdx,Array.getElem?_eq_getElem (by omega),Option.map_some,if_pos ⟨by omega,by rw [size_flatK];simpa using hi'⟩,Nat.add_sub_cancel_left,get_flatK _ _ _ _ (by simpa using hi')]
 have h3:i / ss.length*ss.length+i%ss.length=i:=by rw [Nat.mul_comm];exact Nat.div_add_mod i ss.length
 have h4:=Ky ss (d.map tr) (i / ss.length) (i%ss.length) (by simpa using hd1) hd2
 rw [h3] at h4
 rw [h4]
 have h5:d.toArray[i / ss.length]! = d[i / ss.length]:=by rw [getElem!_pos _ _ (by simpa using hd1)];rfl
 rw [h5,he]
 simp only [List.getElem_map,id]
 have h6:i%ss.length<(BO ss (tr d[i / ss.length])).length:=by rw [Bv];exact hd2
 rw [List.getElem?_eq_getElem h6,getElem!_pos (BO ss (tr d[i / ss.length])) (i%ss.length) h6]
theorem KQ:SortI:=by
 intro s0 σ A n c xs ho hl
 rcases ho with ⟨rfl,rfl,rfl,rfl,rfl⟩ | ⟨b,off,cells,hA,hn,hnc,hb,rfl,hsz,hr⟩
 ·refine (KG (f:=49) fun w=>AnyM.slices_Sort_int_none YtoelhdjloaknbaaGreat.sortI none 0 w).mono ?_
  rintro v σ' ⟨rfl,rfl⟩
  refine ⟨rfl,?_⟩
  have e0:H3 []=[]:=rfl
  exact (congrArg (fun z:List Int=>Ak 3 aM σ' none 0 0 z σ') e0).mpr (Ak.nil ..)
 ·have hlen:(H3 xs).length=xs.length:=IW ..
  have em:List.mergeSort (α:=Int) xs (fun x y:Int=>decide (x<=y))=H3 xs:=FO (α:=Int) (le:=fun x y=>decide (x<=y)) (fun a b c h1 h2=>decide_eq_true (Int.le_trans (of_decide_eq_true h1) (of_decide_eq_true h2))) (fun a b=>by simp only [decide_eq_true_eq];omega) (fun a _ b _ h1 h2=>Int.le_antisymm (of_decide_eq_true h1) (of_decide_eq_true h2))
  have hr':∀ i,(h:i<xs.length)->cells[off+i]? = some (aD xs[i]):=fun i h=>by
   have:=hr i 0 h (by show 0<1;omega)
   simp only [List.length_cons,List.length_nil,Nat.zero_add,Nat.mul_one,Nat.add_zero] at this
   rw [this]
   rfl
  have hsz':off+c<=cells.size:=by simpa using hsz
  have hnx:n=xs.length:=hn
  refine O7 (F:=putCells (Value.int .i64) off (H3 xs).toArray) hA (by rw [hn];exact hlen.symm) hnc hb hsz (by simp [putCells]) ?_ ?_
  ·intro i j hi hj
   have hj0:j=0:=by simpa using hj
   subst hj0
   have hi':i<(H3 xs).length:=hi
   show (putCells (Value.int .i64) off (H3 xs).toArray cells)[off+(i*1+0)]? = some (Value.int .i64 ((H3 xs)[i]'hi'))
   rw [Nat.mul_one,Nat.add_zero]
   unfold putCells
   rw [Array.getElem?_mapIdx,Array.getElem?_eq_getElem (by omega),Option.map_some,if_pos ⟨by omega,by simpa using hi'⟩,Nat.add_sub_cancel_left,getElem!_pos _ _ (by simpa using hi')]
   rfl
  ·intro w hw
   have hwl:=(Array.getElem?_eq_some_iff.1 hw).1
   subst hA
   have:=AnyM.slices_Sort_int YtoelhdjloaknbaaGreat.sortI b off c xs w (fun j hj=>?_) hwl (by omega)
   ·rw [← hnx] at this
    refine this.mono ?_
    rintro x w' ⟨rfl,q,os,rfl⟩
    refine ⟨rfl,q,os,?_⟩
    rw [← em]
    rfl
   ·have hj':j<xs.length:=by simpa using hj
    refine ⟨?_,?_⟩
    ·unfold World.cell?
     rw [hw]
     show (if _ then none else cells[off+j]?)=_
     rw [hr' j hj',getElem!_pos xs.toArray j hj]
     rfl
    ·unfold World.frozen?
     rw [hw]
     show (decide (0<=off+j)&&decide (off+j<0))=false
     simp
theorem MZ {ρ:Ren} {g:FuncId} {e:TypeId} {ss:List Sh} (L:SlLaysF0.n6 prog ρ) (aE:∀ w,(isAgg (ρ.t 24)).run prog w=.ok true w) (zE:∀ w,(Go.sizeOf (ρ.t 24)).run prog w=.ok ss.length w)
  (h1:∀ x:TyR ss,∀ v∈BO ss x,v.oneCell'=true) (cf:TyR ss->TyR ss->Int) (eg:∀ args w,(callFunc g args).run prog w=.ok (.enter g args) w)
  {s0 σ:Hp} {A:aA} {n c:Nat} {xs:List (TyR ss)} (ho:Ak e ss s0 A n c xs σ) (hl:xs.length<=4294967296)
  (hcmp:∀ x∈xs,∀ y∈xs,Af prog g #[.agg (BO ss x).toArray,.agg (BO ss y).toArray] (fun _=>none) fun v _=>v=aD (cf x y))
  (hi:∀ x∈xs,¬ cf x x<0) (ht:∀ x∈xs,∀ y∈xs,∀ z∈xs,cf x y<0->cf y z<0->cf x z<0) (hn:∀ x∈xs,∀ y∈xs,∀ z∈xs,¬ cf x y<0->¬ cf y z<0->¬ cf x z<0)
  (hT:∀ x∈xs,∀ y∈xs,¬ cf x y<0->¬ cf y x<0->x=y):
  Af prog (ρ.f 6) #[aN A n c,.func (.func g) #[] #[]] σ fun v σ'=>v=.tuple #[]/\Ak e ss s0 A n c (xs.mergeSort fun x y=>!decide (cf y x<0)) σ':=by
 rcases ho with ⟨rfl,rfl,rfl,rfl,rfl⟩ | ⟨b,off,cells,hA,hnn,hnc,hb,rfl,hsz,hr⟩
 ·refine (KG fun w=>AnyF.slices_SortFunc_none L none 0 _ w).mono ?_
  rintro v σ' ⟨rfl,rfl⟩
  exact ⟨rfl,by rw [List.mergeSort_nil];exact Ak.nil ..⟩
 ·by_cases hx:xs=[]
  ·subst hx
   have hn0:n=0:=hnn
   subst hn0
   refine (KG fun w=>AnyF.slices_SortFunc_none L A c _ w).mono ?_
   rintro v σ' ⟨rfl,rfl⟩
   exact ⟨rfl,by rw [List.mergeSort_nil];exact .inr ⟨b,off,cells,hA,rfl,hnc,hb,rfl,hsz,hr⟩⟩
  ·obtain ⟨x0,hx0⟩:=List.exists_mem_of_ne_nil xs hx
   haveI:Inhabited { x // x∈xs }:=⟨⟨x0,hx0⟩⟩
   let cf':{ x // x∈xs }->{ x // x∈xs }->Int:=fun x y=>cf x.1 y.1
   let enc:{ x // x∈xs }->List Value:=fun x=>BO ss x.1
   have hO:SWO (ltOf cf'):=
    ⟨fun x=>decide_eq_false (hi _ x.2),fun x y z h2 h3=>decide_eq_true (ht _ x.2 _ y.2 _ z.2 (of_decide_eq_true h2) (of_decide_eq_true h3)),fun x y z h2 h3=>decide_eq_false (hn _ x.2 _ y.2 _ z.2 (of_decide_eq_false h2) (of_decide_eq_false h3))⟩
   have hmap:(xs.attach.mergeSort fun x y=>!(ltOf cf') y x).map (fun x=>x.1)=xs.mergeSort fun x y=>!decide (cf y x<0):=by
    have:=List.map_mergeSort (r:=fun x y=>!(ltOf cf') y x) (s:=fun x y=>!decide (cf y x<0)) (f:=fun x:{ x // x∈xs }=>x.1) (l:=xs.attach) (fun a _ b _=>rfl)
    rw [this,List.attach_map_subtype_val]
   have hlen:(xs.mergeSort fun x y=>!decide (cf y x<0)).length=xs.length:=List.length_mergeSort ..
   have hm:n*ss.length<=c*ss.length:=Nat.mul_le_mul_right _ hnc
   have hl2:(xs.attach.mergeSort fun x y=>!(ltOf cf') y x).length=n:=by rw [List.length_mergeSort,List.length_attach,hnn]
   obtain ⟨q1,q2⟩:=YE (enc:=enc) (ss:=ss) (tr:=fun x=>x.1) (fun _=>rfl) (off:=off) (cells:=cells) (d:=xs.attach.mergeSort fun x y=>!(ltOf cf') y x) (by rw [hl2];omega)
   rw [hmap] at q2
   refine O7 (F:=putCells id off (flatK enc ss.length (xs.attach.mergeSort fun x y=>!(ltOf cf') y x).toArray)) hA (by rw [hnn,hlen]) hnc hb hsz q1 q2 ?_
   intro w hw
   have hwl:=(Array.getElem?_eq_some_iff.1 hw).1
   subst hA
   have hH:HoldsK enc ss.length w b off xs.attach.toArray:=Uq (tr:=fun x:{ x // x∈xs }=>x.1) (fun _=>rfl) (d:=xs.attach) hw (by rw [List.attach_map_subtype_val];exact hr)
   have hcl:CmpLays prog g #[] enc ss.length cf' b off xs.attach.toArray.size w:=fun m os dk hs x y=>by
    have:=WH (hcmp x.1 x.2 y.1 y.2) (sortWorldK enc ss.length w b off m dk os)
    exact this
   have:=AnyQ.slices_SortFunc_total L ss.length aE zE enc (fun x=>Bv ss x.1) (fun x=>h1 x.1) cf' hO g #[] b off c xs.attach.toArray w eg hcl hH hwl (by simp;omega) (fun x y h2 h3=>Subtype.ext (hT _ x.2 _ y.2 (of_decide_eq_false h2) (of_decide_eq_false h3)))
   have e1:xs.attach.toArray.size=n:=by simp [hnn]
   rw [e1] at this
   refine this.mono ?_
   rintro x w' ⟨rfl,q,os,rfl⟩
   exact ⟨rfl,q,os,rfl⟩
def LU (a b:Int×Int):Int:=a.1-b.1
theorem PR (a b:Int×Int):LU a b<0↔a.1<b.1:=by unfold LU;omega
theorem Tc:SortQ:=by
 intro s0 σ A n c xs ho hl hb hnd
 have key:∀ x∈xs,∀ y∈xs,x.1=y.1->x=y:=by
  intro x hx y hy e
  obtain ⟨i,hi,rfl⟩:=List.getElem_of_mem hx
  obtain ⟨j,hj,rfl⟩:=List.getElem_of_mem hy
  have hpw:=List.pairwise_iff_getElem.1 hnd
  rcases Nat.lt_trichotomy i j with h | h | h
  ·have:=hpw i j (by simpa using hi) (by simpa using hj) h
   rw [List.getElem_map,List.getElem_map] at this
   exact absurd e this
  ·subst h;rfl
  ·have:=hpw j i (by simpa using hj) (by simpa using hi) h
   rw [List.getElem_map,List.getElem_map] at this
   exact absurd e.symm this
 have h1:∀ x:TyR sQ,∀ v∈BO sQ x,v.oneCell'=true:=by
  intro x v hv
  have hv:v∈[Value.int .i64 x.1,aD x.2]:=hv
  simp only [List.mem_cons,List.not_mem_nil,or_false] at hv
  rcases hv with rfl | rfl<;>rfl
 have hc:∀ x∈xs,∀ y∈xs,Af prog 227 #[.agg (BO sQ x).toArray,.agg (BO sQ y).toArray] (fun _=>none) fun v _=>v=aD (LU x y):=by
  intro x hx y hy
  have b1:=hb x hx
  have b2:=hb y hy
  apply HQ
  unfold CG
  exact AS (by omega) (Al rfl)
 have k1:∀ x∈xs,¬ LU x x<0:=fun x _=>by rw [PR];omega
 have k2:∀ x∈xs,∀ y∈xs,∀ z∈xs,LU x y<0->LU y z<0->LU x z<0:=fun x _ y _ z _ h2 h3=>by rw [PR] at *;omega
 have k3:∀ x∈xs,∀ y∈xs,∀ z∈xs,¬ LU x y<0->¬ LU y z<0->¬ LU x z<0:=fun x _ y _ z _ h2 h3=>by rw [PR] at *;omega
 have k4:∀ x∈xs,∀ y∈xs,¬ LU x y<0->¬ LU y x<0->x=y:=fun x hx y hy h2 h3=>by rw [PR] at *;exact key x hx y hy (by omega)
 have:=MZ (ss:=sQ) (g:=227) YtoelhdjloaknbaaGreat.sortQ Tryz.isAgg240 Tryz.sizeOf240 h1 LU (enters_of Tryz.func227 (by kernel_rfl) rfl) ho hl hc k1 k2 k3 k4
 have e:(fun x y:Int×Int=>!decide (LU y x<0))=fun x y=>decide (x.1<=y.1):=by
  funext x y
  unfold LU
  by_cases h:x.1<=y.1
  ·rw [decide_eq_true h,decide_eq_false (by omega)];rfl
  ·rw [decide_eq_false h,decide_eq_true (by omega)];rfl
 refine this.mono ?_
 rintro v σ' ⟨rfl,h⟩
 refine ⟨rfl,?_⟩
 have h':Ak 240 sQ s0 A n c (List.mergeSort (α:=Int×Int) xs fun x y=>!decide (LU y x<0)) σ':=h
 rw [e,FO (α:=Int×Int) (le:=fun x y=>decide (x.1<=y.1)) (fun a b c h1 h2=>decide_eq_true (Int.le_trans (of_decide_eq_true h1) (of_decide_eq_true h2))) (fun a b=>by simp only [decide_eq_true_eq];omega) (fun a ha b hb h1 h2=>key a ha b hb (Int.le_antisymm (of_decide_eq_true h1) (of_decide_eq_true h2)))] at h'
 exact h'
def orI:List Int->Int
 | []=>0
 | x::xs=>if x=0 then orI xs else x
theorem Xd {σ:Hp} {A:aA} {n c:Nat} {xs:List Int} (hx:RdS aM σ A n xs) (hl:xs.length<=4294967296):Af prog 172 #[aN A n c] σ fun v σ'=>v=aD (orI xs)/\σ'=σ:=by
 apply Pj
 unfold Jn
 have hn:=hx.lenI
 refine Ah fun J3 h3=>?_
 refine ⟨fun w i τ=>∃ k:Nat,w=xs.length-k/\i=k/\k<=xs.length/\τ=σ/\orI (xs.drop k)=orI xs,⟨_,0,rfl,rfl,by omega,rfl,rfl⟩,?_⟩
 rintro w i τ ⟨k,rfl,rfl,hk,rfl,he⟩ _
 refine AF (fun hlt=>?_) (fun hlt=>?_)
 ·have hkl:k<xs.length:=by omega
  refine EJ hx (by omega) (by omega) ?_
  rw [List.drop_eq_getElem_cons hkl,orI] at he
  rw [B3 hkl]
  refine BQ (fun hne=>Al ⟨?_,rfl⟩) (fun h0=>AS (by omega) (Be _ (by omega) ⟨k+1,rfl,by omega,by omega,rfl,?_⟩))
  ·rw [← he,if_neg hne]
  ·rw [← he,if_pos h0]
 ·have:k=xs.length:=by omega
  subst this
  rw [h3]
  intro _
  refine Al ⟨?_,rfl⟩
  rw [← he,List.drop_length]
  rfl
def Vis.left (v:Vis):Int:=v.2.2.2.2.2
def LG (a b:Vis):Int:=orI [a.left-b.left,a.1-b.1,a.2.1-b.2.1]
def vle (x y:Vis):Bool:=!decide (LG y x<0)
def Xj (xs:List Vis):List Vis:=M9 vle xs
theorem NQ (a b:Vis):LG a b<0↔a.left<b.left∨a.left=b.left/\(a.1<b.1∨a.1=b.1/\a.2.1<b.2.1):=by
 simp only [LG,orI]
 split
 ·split
  ·split<;>omega
  ·omega
 ·omega
theorem PY (a b:Vis):vle a b=true↔¬ (b.left<a.left∨b.left=a.left/\(b.1<a.1∨b.1=a.1/\b.2.1<a.2.1)):=by
 unfold vle
 rw [Bool.not_eq_true',decide_eq_false_iff_not,NQ]
theorem VU (a b c:Vis) (h1:vle a b=true) (h2:vle b c=true):vle a c=true:=by rw [PY] at *;omega
theorem V3 (a b:Vis):vle a b=true∨vle b a=true:=by rw [PY,PY];omega
theorem Xk {σ:Hp} {a b:Vis} (ha:∀ v∈[a,b],(0<=v.left/\v.left<=1000000)/\(0<=v.1/\v.1<=1000000)/\(0<=v.2.1/\v.2.1<=1000000)):Af prog 171 #[.agg (BO sV a).toArray,.agg (BO sV b).toArray] σ fun v _=>v=aD (LG a b):=by
 have h1:=ha a (by simp)
 have h2:=ha b (by simp)
 apply N3
 unfold GC
 have e1:a.left=a.2.2.2.2.2:=rfl
 have e2:b.left=b.2.2.2.2.2:=rfl
 rw [e1] at h1
 rw [e2] at h2
 refine AS (by omega) (AS (by omega) (AS (by omega) ?_))
 intro A n c σ' ho
 refine clI (aV 172) (Xd ho.RdI (by simp)) (Al rfl)
def SortV:Prop:=∀ (s0 σ:Hp) (A:aA) (n c:Nat) (xs:List Vis),Ak 75 sV s0 A n c xs σ->xs.length<=4294967296 ->
 (∀ v∈xs,(0<=v.left/\v.left<=1000000)/\(0<=v.1/\v.1<=1000000)/\(0<=v.2.1/\v.2.1<=1000000))->(∀ x∈xs,∀ y∈xs,x.1=y.1->x.2.1=y.2.1->x=y) ->
 Af prog 170 #[aN A n c,.func (.func 171) #[] #[]] σ fun v σ'=>v=.tuple #[]/\Ak 75 sV s0 A n c (Xj xs) σ'
theorem SR:SortV:=by
 intro s0 σ A n c xs ho hl hb hT
 have h1:∀ x:TyR sV,∀ v∈BO sV x,v.oneCell'=true:=by
  intro x v hv
  have:v∈[Value.int .i64 x.1,aD x.2.1,aD x.2.2.1,.bool x.2.2.2.1,aD x.2.2.2.2.1,aD x.2.2.2.2.2]:=hv
  simp only [List.mem_cons,List.not_mem_nil,or_false] at this
  rcases this with rfl | rfl | rfl | rfl | rfl | rfl<;>rfl
 have hc:∀ x∈xs,∀ y∈xs,Af prog 171 #[.agg (BO sV x).toArray,.agg (BO sV y).toArray] (fun _=>none) fun v _=>v=aD (LG x y):=by
  intro x hx y hy
  refine Xk fun v hv=>?_
  simp only [List.mem_cons,List.not_mem_nil,or_false] at hv
  rcases hv with rfl | rfl
  ·exact hb _ hx
  ·exact hb _ hy
 have k1:∀ x∈xs,¬ LG x x<0:=fun x _=>by rw [NQ];omega
 have k2:∀ x∈xs,∀ y∈xs,∀ z∈xs,LG x y<0->LG y z<0->LG x z<0:=fun x _ y _ z _ h2 h3=>by rw [NQ] at *;omega
 have k3:∀ x∈xs,∀ y∈xs,∀ z∈xs,¬ LG x y<0->¬ LG y z<0->¬ LG x z<0:=fun x _ y _ z _ h2 h3=>by rw [NQ] at *;omega
 have k4:∀ x∈xs,∀ y∈xs,¬ LG x y<0->¬ LG y x<0->x=y:=fun x hx y hy h2 h3=>by rw [NQ] at *;exact hT x hx y hy (by omega) (by omega)
 have em:(xs:List Vis).mergeSort (fun x y=>!decide (LG y x<0))=Xj xs:=FO (le:=vle) VU V3 (fun a ha b hb h1 h2=>by rw [PY] at h1 h2;exact hT a ha b hb (by omega) (by omega))
 rw [← em]
 exact MZ (ss:=sV) (g:=171) YtoelhdjloaknbaaGreat.sortV Tryz.isAgg75 Tryz.sizeOf75 h1 LG (enters_of Tryz.func171 (by kernel_rfl) rfl) ho hl hc k1 k2 k3 k4
end Go.Proofs.YtoelhdjloaknbaaGreat
