/- What this claim rests on. -/
import Derived.Test.YtoelhdjloaknbaaGreatUB11
import Derived.ProofKit
import Derived.Deep.Slices
import Derived.Deep.Fields
import Derived.Lib.SmallJoins
import Derived.ChangeSame
namespace Go.Proofs.YtoelhdjloaknbaaGreat
open Go.RowKit Go.ChangeShapes Go.WideShapes Go.Deep Go.Joins Go.Proofs.Tryz
def Ez (W:World):Hp:=fun b=>(W.heap[b]?).map fun o=>(o,false)
theorem Ww (W:World):Sat W.heap.size W [] (Ez W) W:=by
 refine ⟨Below.refl _ _,Nat.le_refl _,fun m hm=>(by cases hm),List.nodup_nil,fun b o rw h=>?_,Nat.le_refl _⟩
 unfold Ez at h
 cases e:W.heap[b]? with
 | none=>rw [e] at h;cases h
 | some x=>
  rw [e] at h
  cases h
  refine ⟨rfl,fun h=>(by cases h),fun _=>?_⟩
  exact (Array.getElem?_eq_some_iff.1 e).1
theorem QF {W:World} {b:Nat} {c:Array Value} {e:TypeId} {f:Nat×Nat} (h:W.heap[b]? = some (.cells c e f)):Ez W b=some (.cells c e f,false):=by
 unfold Ez
 rw [h]
 rfl
theorem SJ {P:Program} {n:FuncId} {args:Array Value} {W:World} (h:Af P n args (Ez W) fun v _=>v=.bool true):
  Calls P n args W fun e W'=>e=.returned (.bool true)/\Below W.heap.size W W':=
 (h.calls _ _ _ _ (Ww W)).mono fun e W' ⟨v,σ',he,⟨_,_,hv⟩,hs⟩=>⟨by rw [he,hv],hs.below⟩
section
variable {H:Type} {enc:TypeId×Value->H} {P:Program}
theorem Q7 {f:Func} {s:ChangeSpec} {apart fresh handsOn again:Bool} {W W':World} {args:Array Value} {v:Value} {ds gs:List (DataW H)} {before pa pv:List MemPlace}
  (hW:DataW.Whole enc P f.params.toList s.vars apart W args.toList ds gs before)
  (hres:∀ (b:Nat) (sp:Nat->Bool) (hd:Bool),DataW.TrodAll enc P W' b sp hd f.resultTypes.toList (v.resultList f.resultTypes.size) (s.fn H (ds++gs)).results [])
  (hargs:∀ sp:Nat->Bool,(∀ p∈before,sp p.block=true)->DataW.TrodAll enc P W' 0 sp true f.params.toList args.toList (s.fn H (ds++gs)).args pa)
  (hvars:∀ sp:Nat->Bool,(∀ p∈before,sp p.block=true)->DataW.TrodVars enc P W' sp s.vars (s.fn H (ds++gs)).vars pv)
  (hps:before=pa++pv) (hb:Below W.heap.size W W')
  (hok:∀ (j:Nat) (t:TypeId) (r:Value),f.resultTypes[j]? = some t->(v.resultList f.resultTypes.size)[j]? = some r->Value.okWide P W' .any 0 t r):
  s.post enc P f apart fresh handsOn again W args v W':=by
 have hlt:∀ p∈before,p.block<W.heap.size:=fun p hp=>hW.lt p hp
 have hold:∀ p∈before,(fun b=>decide (b<W.heap.size)) p.block=true:=fun p hp=>by simpa using hlt p hp
 refine ⟨ds,gs,before,[],pa,pv,hW,hres _ _ _,hargs _ hold,hvars _ hold,World.keptBut_mono (fun p hp=>⟨hp,?_⟩) (hb.frame (·∈before)),fun _=>?_⟩
 ·rw [hps,List.mem_append] at hp
  exact Or.inr hp
 ·obtain ⟨_,_,_,_,_,hz,hn⟩:=hW
  refine ⟨hok,_,_,([]++pa)++pv,⟨[]++pa,pv,trodAll_append (hargs _ (fun _ _=>rfl)) (hres _ _ _),hvars _ (fun _ _=>rfl),rfl,?_,?_⟩,?_⟩
  ·intro b off hp
   have hin:MemPlace.cell b off∈before:=by rw [hps];simpa using hp
   rw [hb.frozen (hlt _ hin)]
   exact hz b off hin
  ·intro ha
   have:=hn ha
   rw [hps] at this
   simpa using this
  ·intro p hp _
   rw [hps]
   simpa using hp
theorem LY (hl:laidOutB P=true) {W W':World} (hb:Below W.heap.size W W') {sp:Nat->Bool}:∀ {ts:List TypeId} {vs:List Value} {ds:List (DataW H)} {p:List MemPlace},
  ts.all (fun t=>P.readableRec t&&decide (t<P.types.size))=true->DataW.TrodAll enc P W 0 (fun _=>true) true ts vs ds p->(∀ x∈p,x.block<W.heap.size)->(∀ x∈p,sp x.block=true)->DataW.TrodAll enc P W' 0 sp true ts vs ds p
 | [],_,_,_,_,h,_,_=>by
  obtain ⟨rfl,rfl,rfl⟩:=trodAll_nil h
  exact trodAll_mk0
 | t::ts,_,_,_,ht,h,hlt,hsp=>by
  obtain ⟨v,vs,d,ds,p,q,rfl,rfl,rfl,h1,h2⟩:=trodAll_cons h
  simp only [List.all_cons,Bool.and_eq_true,decide_eq_true_eq] at ht
  exact ⟨p,q,WideElems.Trod_stays hl ht.1.1 ht.1.2 h1 (fun x hx=>hb.same (hlt x (List.mem_append_left _ hx))) (fun x hx=>hsp x (List.mem_append_left _ hx)),LY hl hb (by simpa using ht.2) h2 (fun x hx=>hlt x (List.mem_append_right _ hx)) (fun x hx=>hsp x (List.mem_append_right _ hx)),rfl⟩
theorem YR {f:Func} {s:ChangeSpec} {n:FuncId} {W:World} {args:Array Value} {ds:List (DataW H)} {p:List MemPlace} {tb:TypeId}
  (hl:laidOutB P=true) (hr:f.params.toList.all (fun t=>P.readableRec t&&decide (t<P.types.size))=true) (hres:f.resultTypes=#[tb]) (htb:P.underlying tb=some .bool)
  (hsv:s.vars=[]) (hsp:s.fn H ds={ results:=[.lit (.bool true)],args:=ds })
  (hW:DataW.Whole enc P f.params.toList s.vars false W args.toList ds [] p) (hA:DataW.TrodAll enc P W 0 (fun _=>true) true f.params.toList args.toList ds p)
  (h:Af P n args (Ez W) fun v _=>v=.bool true):Calls P n args W fun e W'=>∃ v,e=.returned v/\s.post enc P f false true false false W args v W':=by
 refine (SJ h).mono fun e W' ⟨he,hb⟩=>⟨_,he,?_⟩
 refine Q7 (pa:=p) (pv:=[]) hW ?_ ?_ ?_ (by simp) hb ?_
 ·intro b sp hd
  rw [hres,List.append_nil,hsp]
  exact trodAll_mk1 (shut_bool htb true)
 ·intro sp hs
  rw [List.append_nil,hsp]
  exact LY hl hb hr hA (fun x hx=>hW.lt x hx) hs
 ·intro sp _
  rw [hsv,List.append_nil,hsp]
  rfl
 ·exact ok_one hres rfl (okWide_bool_mk htb true)
def Ld (P:Program) (e:TypeId) (ss:List Sh):Prop:=∀ (H:Type) (enc:TypeId×Value->H) (w:World) (b:Nat) (sp:Nat->Bool) (hd:Bool) (fuel:Nat) (cs:List Value) (y:DataW H×List MemPlace),DataW.trod enc P w b sp hd fuel e cs=some y->∃ x:TyR ss,cs=BO ss x
theorem Vw:∀ (ss:List Sh) (s:Sh) (cs:List Value),cs.length=ss.length+1->(∀ (j:Nat) (t:Sh) (v:Value),(s::ss)[j]? = some t->cs[j]? = some v->∃ x,v=Ou t x)->∃ x:TyC ss s,cs=Mb ss s x
 | [],s,cs,hl,h=>by
  match cs,hl with
  | [v],_=>
   obtain ⟨x,rfl⟩:=h 0 s v rfl rfl
   exact ⟨x,rfl⟩
 | t::ss,s,cs,hl,h=>by
  match cs,hl with
  | v::us,hl=>
   obtain ⟨x,rfl⟩:=h 0 s v rfl rfl
   obtain ⟨y,rfl⟩:=Vw ss t us (by simpa using hl) (fun j t' v hj hv=>h (j+1) t' v (by simpa using hj) (by simpa using hv))
   exact ⟨(x,y),rfl⟩
theorem Zi (ss:List Sh) (cs:List Value) (hl:cs.length=ss.length) (h:∀ (j:Nat) (t:Sh) (v:Value),ss[j]? = some t->cs[j]? = some v->∃ x,v=Ou t x):∃ x:TyR ss,cs=BO ss x:=by
 cases ss with
 | nil=>
  match cs,hl with
  | [],_=>exact ⟨(),rfl⟩
 | cons s ss=>exact Vw ss s cs hl h
theorem Ld.int {e:TypeId} {k:IntKind} (he:P.underlying e=some (.int k)):Ld P e [.int k]:=by
 intro H enc w b sp hd fuel cs y h
 obtain ⟨n,rfl,_⟩:=DataW.trod_int he h
 exact ⟨n,rfl⟩
def Abk (P:Program) (t:TypeId):Sh->Bool
 | .int k=>match P.underlying t with
  | some (.int k')=>QH k k'
  | _=>false
 | .bool=>match P.underlying t with
  | some .bool=>true
  | _=>false
 | _=>false
def Z0 (P:Program) (fs:Array Field) (ss:List Sh):Bool:=Nat.beq fs.size ss.length&&(List.range ss.length).all fun i=>match fs[i]?,ss[i]? with
 | some f,some s=>Abk P f.type s
 | _,_=>false
theorem Ld.struct {e:TypeId} {fs:Array Field} {ss:List Sh} (he:P.underlying e=some (.struct fs)) (hone:oneCellFields P fs=true) (hC:P.cellsOf e=fs.size) (hs:Z0 P fs ss=true):Ld P e ss:=by
 intro H enc w b sp hd fuel cs y h
 unfold Z0 at hs
 simp only [Bool.and_eq_true] at hs
 have hlen:=Nat.eq_of_beq_eq_true hs.1
 obtain ⟨xs,n,_,_,hcl,hxl,hg⟩:=DataW.trod_struct he h
 refine Zi ss cs (by rw [hcl,hC,hlen]) fun j t v hj hv=>?_
 have hjl:j<ss.length:=(List.getElem?_eq_some_iff.1 hj).1
 have h1:=List.all_eq_true.1 hs.2 j (List.mem_range.2 hjl)
 have hfj:fs[j]? = some fs[j]:=Array.getElem?_eq_getElem (by omega)
 rw [hfj,hj] at h1
 simp only at h1
 obtain ⟨o,k⟩:=hone_of hone j _ hfj
 have h2:=hg j _ hfj
 rw [o,k] at h2
 have hvl:j<cs.length:=by omega
 have hcv:cs[j]=v:=by
  rw [List.getElem?_eq_getElem hvl] at hv
  exact Option.some.inj hv
 rw [List.drop_eq_getElem_cons hvl,hcv] at h2
 have hx:xs[j]? = some xs[j]:=List.getElem?_eq_getElem (by omega)
 rw [hx] at h2
 have h3:DataW.trod enc P w b sp hd n fs[j].type [v]=some xs[j]:=h2
 unfold Abk at h1
 split at h1
 ·split at h1
  ·rename_i k' hu
   obtain rfl:=H7 h1
   obtain ⟨m,hm,_⟩:=DataW.trod_int hu h3
   cases hm
   exact ⟨m,rfl⟩
  ·cases h1
 ·split at h1
  ·rename_i hu
   obtain ⟨m,hm,_⟩:=DataW.trod_bool hu h3
   cases hm
   exact ⟨m,rfl⟩
  ·cases h1
 ·cases h1
theorem NA {a:Addr} (h:a.spot=none) (n:Nat):a.add n=⟨a.block,a.off+n,none⟩:=by
 obtain ⟨b,o,s⟩:=a
 cases h
 unfold Addr.add
 split
 ·rename_i h0;subst h0;rfl
 ·rfl
theorem Gl {W:World} {sp:Nat->Bool} {hd:Bool} {t e:TypeId} {ss:List Sh} {fuel:Nat} {v:Value} {y:DataW H×List MemPlace} (ht:P.underlying t=some (.slice e)) (he:Ld P e ss) (hC:P.cellsOf e=ss.length) (FR:0<ss.length)
  (h:DataW.trod enc P W 0 sp hd fuel t [v]=some y):∃ A n c xs,v=aN A n c/\n<=c/\RdS ss (Ez W) A n xs:=by
 rcases open_slice ht h with ⟨h0,_⟩ | ⟨a,len,cap,m,n,D,Pl,hcs,_,hlc,_,hm,_,hel⟩
 ·cases h0
  exact ⟨none,0,0,[],rfl,Nat.le_refl _,rfl,.inl rfl⟩
 ·cases hcs
  have hml:len<=m:=by rw [hm];split<;>omega
  have hx:∀ i,i<len->∃ x:TyR ss,W.cells? 0 (a.add (i*P.cellsOf e)) (P.cellsOf e)=some (BO ss x):=by
   intro i hi
   obtain ⟨cs',h1,h2⟩:=hel i (by omega)
   obtain ⟨x,rfl⟩:=he _ _ _ _ _ _ _ _ _ h2
   exact ⟨x,h1⟩
  cases len with
  | zero=>exact ⟨_,_,_,[],rfl,Nat.zero_le _,rfl,.inl rfl⟩
  | succ len=>
   obtain ⟨x0,hx0⟩:=hx 0 (by omega)
   obtain ⟨X,hX⟩:=@choose_lt _ ⟨x0⟩ (len+1) _ hx
   have hcell:∀ i j,i<len+1->j<ss.length->W.cell? ((a.add (i*ss.length)).add j)=(BO ss (X i))[j]? := by
    intro i j hi hj
    have h1:=hX i hi
    rw [hC] at h1
    exact (World.cells?_some h1).2.2 j hj
   have hc0:=hcell 0 0 (by omega) FR
   have e0:(a.add (0*ss.length)).add 0=a:=by
    rw [Nat.zero_mul]
    rfl
   rw [e0] at hc0
   have hs0:(BO ss (X 0))[0]? = some ((BO ss (X 0))[0]'(by rw [Bv];exact FR)):=List.getElem?_eq_getElem _
   rw [hs0] at hc0
   have hc1:=hc0
   unfold World.cell? at hc1
   split at hc1
   ·rename_i c el f hb
    split at hc1
    ·cases hc1
    ·rename_i hspot
     have hsn:a.spot=none:=by
      cases e:a.spot with
      | none=>rfl
      | some _=>rw [e] at hspot;exact absurd rfl hspot
     refine ⟨some a,len+1,cap,(List.range (len+1)).map X,rfl,hlc,by simp,.inr ⟨a.block,a.off,c,el,f,false,?_,QF hb,?_⟩⟩
     ·obtain ⟨b,o,s⟩:=a
      cases hsn
      rfl
     ·intro i j hi hj
      simp only [List.length_map,List.length_range] at hi
      have h1:=hcell i j hi hj
      rw [NA hsn,NA rfl] at h1
      unfold World.cell? at h1
      simp only [hb] at h1
      simp only [List.getElem_map,List.getElem_range]
      rw [← h1]
      simp [Nat.add_assoc]
   ·cases hc1
end
end Go.Proofs.YtoelhdjloaknbaaGreat
