/- What this claim rests on. -/
import Derived.Test.YtoelhdjloaknbaaGreatUB2
namespace Go.Proofs.YtoelhdjloaknbaaGreat
open Go.RowKit
section
variable {P:Program} {Γ Λ:List LObj} {θ:Nat->Loc} {σ F σc:Hp} {fr:MFr} {vals:Nat->Value} {h:Bool} {K:MV->MFr->List LObj->Hp->Prop}
theorem U6 {x:Value} (h:Gg x=true):x.cells=#[x]:=by cases x<;>first | rfl | cases h
theorem O4 {ag:Bool} {n:Nat} {O:Nat->LObj} {m:MV} {u:Value} {Q:List MC->Prop} (h:N7 ag O m Q) (hm:CV n θ O m u):∃ cs,Q cs/\Bq (CVc n θ O) cs u.cells.toList:=by
 cases m with
 | v x=>
  rw [(hm:_=_)]
  cases ag with
  | true=>exact ⟨_,h,Lk _⟩
  | false=>
   obtain ⟨h1,h2⟩:=DA.1 h
   refine ⟨_,h2,?_⟩
   rw [U6 h1]
   exact .cons rfl .nil
 | bx k o=>
  simp only [N7] at h
  split at h<;>first | exact h.elim | skip
  rename_i hb
  obtain ⟨e,cs,ho⟩:=E1 hb
  refine ⟨_,h,?_⟩
  rw [hm.2 _ _ ho]
  exact .cons ⟨hm.1,fun _ _ _=>rfl⟩ .nil
 | ls k g=>
  simp only [N7] at h
  split at h<;>first | exact h.elim | skip
  rename_i hb
  obtain ⟨e,ss,xs,ho⟩:=H0 hb
  refine ⟨_,h,?_⟩
  have:=(hm.2 _ _ _ _ ho).2 rfl
  have hm':CVc n θ O (.ls k g) u:=hm
  rw [this] at hm' ⊢
  exact .cons hm' .nil
 | ep k g i j=>exact h.elim
 | agg cs=>
  obtain ⟨vs,rfl,h2⟩:=hm
  exact ⟨_,h,h2⟩
theorem St.push (hs:St Γ F vals θ fr Λ σ σc) {b:Nat} (hb:σc b=none) (ob:Obj) (l:Loc) {o:LObj} (ho:o≠.lk) (hl:∀ b',blk (upd θ Λ.length l) Λ.length o=some b'->b'=b)
  (hr:Ev Λ.length θ (obj Γ Λ) (upd θ Λ.length l) (upd (obj Γ Λ) Λ.length o)->G1 (Λ.length+1) (upd θ Λ.length l) (upd (obj Γ Λ) Λ.length o) (σc.ins b ob) Λ.length o):
  St Γ F vals (upd θ Λ.length l) fr (Λ++[o]) σ (σc.ins b ob):=by
 obtain ⟨h1,h2⟩:=hs.hr.push hb ob l o hl hr
 have e:(Λ++[o]).length=Λ.length+1:=by simp
 refine hs.next ?_ ?_ (by omega)
 ·rw [e,BD ho];exact h1
 ·rw [BD ho];exact h2
theorem Pst.of {u:Value} {sc':Hp} {θ':Nat->Loc} {fr':MFr} {Λ':List LObj} {σ':Hp} {m:MV} (hsub:h=true->Hp.Sub σc sc') (hs:St Γ F vals θ' fr' Λ' σ' sc') (hk:K m fr' Λ' σ') (hm:CV Λ'.length θ' (obj Γ Λ') m u):Pst Γ F vals h σc K u sc':=
 ⟨hsub,θ',fr',Λ',σ',m,hs,hm,hk⟩
theorem Ux {o:Oper} {e:TypeId} {x:Operand} (hop:o.op=.box e x) (hs:St Γ F vals θ fr Λ σ σc) (hp:N7 (GT P e) (obj Γ Λ) (mev fr x) fun cs=>K (.bx Λ.length 0) fr (Λ++[.box e cs]) σ):lOp P o (evl vals) σc (Pst Γ F vals h σc K):=by
 unfold lOp
 rw [hop]
 show lE P o (evl vals) σc _
 unfold lE
 rw [hop]
 intro b hb
 obtain ⟨cs,hk,ha⟩:=O4 hp (hs.ev x)
 have hst:=hs.push hb (.cells (evl vals x).cells e) ⟨false,b,0,0⟩ (o:=.box e cs) (by simp) (fun b' hb'=>by
  simp only [blk,Au,Option.some.injEq] at hb';exact hb'.symm) (fun he=>⟨_,by rw [Au];exact Hp.ins_same _ _ _,ha.imp fun _ _ x=>x.ev he (Nat.le_succ _)⟩)
 refine Pst.of (fun _=>Hp.Sub.ins _ hb) hst hk ⟨by simp,fun e' cs' _=>?_⟩
 rw [Au]
theorem SF {o:Oper} {e:TypeId} {z:Value} (hop:o.op=.alloc e) (hz:(P.info? e).bind (·.zero)=some z) (hs:St Γ F vals θ fr Λ σ σc) (hp:K (.bx Λ.length 0) fr (Λ++[.box e (z.cells.toList.map .v)]) σ):lOp P o (evl vals) σc (Pst Γ F vals h σc K):=by
 unfold lOp
 rw [hop]
 show lE P o (evl vals) σc _
 unfold lE
 rw [hop]
 simp only [hz]
 intro b hb
 have hst:=hs.push hb (.cells z.cells e) ⟨false,b,0,0⟩ (o:=.box e (z.cells.toList.map .v)) (by simp) (fun b' hb'=>by
  simp only [blk,Au,Option.some.injEq] at hb';exact hb'.symm) (fun he=>⟨_,by rw [Au];exact Hp.ins_same _ _ _,Lk _⟩)
 refine Pst.of (fun _=>Hp.Sub.ins _ hb) hst hp ⟨by simp,fun e' cs' _=>?_⟩
 rw [Au]
theorem St.push_list (hs:St Γ F vals θ fr Λ σ σc) {b:Nat} (hb:σc b=none) (cells:Array Value) (e:TypeId) (ss:List Sh) (xs:List (TyR ss)) (c:Nat) (hc:xs.length<=c) (hz:c*ss.length<=cells.size) (hr:Row cells 0 ss xs):
  ∃ θ',St Γ F vals θ' fr (Λ++[.lst e 0 ss xs]) σ (σc.ins b (.cells cells e))/\CV (Λ++[LObj.lst e 0 ss xs]).length θ' (obj Γ (Λ++[.lst e 0 ss xs])) (.ls Λ.length 0) (.slice (some ⟨b,0,none⟩) xs.length c):=by
 refine ⟨upd θ Λ.length ⟨false,b,0,c⟩,hs.push hb (.cells cells e) ⟨false,b,0,c⟩ (by simp) (fun b' hb'=>?_) (fun _=>?_),by simp,fun e' g' ss' xs' h=>?_⟩
 ·simp only [blk,Au,Option.some.injEq] at hb';exact hb'.symm
 ·refine ⟨by rw [Au];exact hc,?_⟩
  rw [Au]
  exact ⟨cells,Hp.ins_same _ _ _,by simpa using hz,hr⟩
 ·rw [BD (by simp),Au] at h
  cases h
  exact ⟨Nat.le_refl _,fun _=>by rw [Au];rfl⟩
theorem St.push_empty (hs:St Γ F vals θ fr Λ σ σc) (e:TypeId) (ss:List Sh):
  ∃ θ',St Γ F vals θ' fr (Λ++[.lst e 0 ss []]) σ σc/\CV (Λ++[LObj.lst e 0 ss []]).length θ' (obj Γ (Λ++[.lst e 0 ss []])) (.ls Λ.length 0) (.slice none 0 0):=by
 obtain ⟨h1,h2⟩:=hs.hr.push_nil e ss
 have el:(Λ++[LObj.lst e 0 ss []]).length=Λ.length+1:=by simp
 refine ⟨_,hs.next (θ':=upd θ Λ.length ⟨true,0,0,0⟩) ?_ ?_ (by omega),by simp,fun e' g' ss' xs' h=>?_⟩
 ·rw [el,BD (by simp)];exact h1
 ·rw [BD (by simp)];exact h2
 ·rw [BD (by simp),Au] at h
  cases h
  exact ⟨Nat.le_refl _,fun _=>by rw [Au];rfl⟩
theorem Qx {ss:List Sh}:∀ {n:Nat} {cs:List Value} {xs:List (TyR ss)},SA ss n cs=some xs->cs.length=n*ss.length->xs.length=n/\cs=CN ss xs
 | 0,cs,xs,h,hl=>by
  cases h
  have:cs=[]:=List.length_eq_zero_iff.1 (by omega)
  exact ⟨rfl,by rw [this];rfl⟩
 | n+1,cs,xs,h,hl=>by
  simp only [SA] at h
  split at h
  ·rename_i x hx
   split at h
   ·rename_i ys hy
    cases h
    have hl2:(cs.drop ss.length).length=n*ss.length:=by
     rw [List.length_drop,hl,Nat.add_mul]
     omega
    obtain ⟨h1,h2⟩:=Qx hy hl2
    obtain ⟨h3,_⟩:=T0 hx
    refine ⟨by simp [h1],?_⟩
    unfold CN at h2 ⊢
    rw [List.flatMap_cons,← h2,← h3,List.take_append_drop]
   ·cases h
  ·cases h
theorem TR {ss:List Sh} {xs:List (TyR ss)} {post:List Value}:Row ⟨CN ss xs++post⟩ 0 ss xs:=Row.of_flat fun i hi=>by
 simp only [Nat.zero_add]
 rw [List.getElem?_toArray,List.getElem?_append_left (by rw [BL];exact hi)]
theorem Zy {fr:MFr} {parts:List (Nat×Operand)} (h:(parts.all fun p=>isV (mev fr p.2))=true) (hs:St Γ F vals θ fr Λ σ σc):parts.map (fun (p:Nat×Operand)=>(p.1,cvl (mev fr p.2)))=parts.map fun p=>(p.1,evl vals p.2):=
 List.map_congr_left fun p hp=>by
  have h1:=List.all_eq_true.1 h p hp
  have h2:=hs.ev p.2
  cases hm:mev fr p.2 with
  | v x=>rw [hm] at h2;rw [(h2:_=_)];rfl
  | _=>rw [hm] at h1;cases h1
theorem N6 {o:Oper} {t:TypeId} {len:Nat} {parts:Array (Nat×Operand)} {p:Prop} (hop:o.op=.buildSlice t len parts) (hs:St Γ F vals θ fr Λ σ σc) (e:K2 P fr Λ σ K t len parts.toList=some p) (hp:p):lOp P o (evl vals) σc (Pst Γ F vals h σc K):=by
 unfold lOp
 rw [hop]
 show lE P o (evl vals) σc _
 unfold lE
 rw [hop]
 unfold K2 at e
 split at e<;>first | cases e | skip
 rename_i et hu
 split at e<;>first | cases e | skip
 rename_i ie hie hall
 simp only [hu,hie]
 split at e<;>first | cases e | skip
 ·rename_i z hz hd1 hd2 hsz
  simp only [hz,hd1,hd2]
  rw [Zy hall hs] at e
  split at e<;>first | cases e | skip
  rename_i cs hf
  simp only [hf]
  split at e<;>first | cases e | skip
  rename_i xs hl hxs
  have hsz:=Nat.eq_of_beq_eq_true hsz
  have hl:=Nat.eq_of_beq_eq_true hl
  rw [hsz] at hl
  obtain ⟨h1,h2⟩:=Qx hxs hl
  intro b hb
  have e1:cs=⟨CN (Bi P 8 et) xs++[]⟩:=by
   rw [List.append_nil,← h2]
  obtain ⟨θ',h3,h4⟩:=hs.push_list hb cs et (Bi P 8 et) xs len (by omega) (by rw [← hl];simp) (by rw [e1];exact TR)
  rw [h1] at h4
  exact Pst.of (fun _=>Hp.Sub.ins _ hb) h3 hp h4
 ·rename_i z hz hd1 hd2
  simp only [hz,hd1,hd2]
  split at e<;>first | cases e | skip
  rename_i hpar
  simp only [hpar]
  intro b hb
  obtain ⟨θ',h3,h4⟩:=hs.push_list hb #[] et (Bi P 8 et) [] 0 (Nat.le_refl _) (by simp) (fun i j hi=>by simp at hi)
  exact Pst.of (fun _=>Hp.Sub.ins _ hb) h3 hp h4
theorem OI {o:Oper} {t:TypeId} {l c:Operand} {p:Prop} (hop:o.op=.makeSlice t l c) (hs:St Γ F vals θ fr Λ σ σc) (e:MM P fr Λ σ K t l c=some p) (hp:p):lOp P o (evl vals) σc (Pst Γ F vals h σc K):=by
 unfold lOp
 rw [hop]
 show lE P o (evl vals) σc _
 unfold lE
 rw [hop]
 unfold MM at e
 split at e<;>first | cases e | skip
 rename_i et hu
 split at e<;>first | cases e | skip
 rename_i ie hie
 split at e<;>first | cases e | skip
 rename_i z k1 n k2 m hz hn hm h0
 split at e<;>first | cases e | skip
 rename_i r hr
 have hvn:=hs.ev l
 have hvm:=hs.ev c
 rw [hn] at hvn
 rw [hm] at hvm
 have hvn:evl vals l=.int k1 n:=hvn
 have hvm:evl vals c=.int k2 m:=hvm
 simp only [hu,hie,hz,hvn,hvm,h0]
 obtain ⟨h1,h2,h3,hp⟩:=hp
 refine ⟨h1,h2,h3,fun b hb=>?_⟩
 obtain ⟨hz1,_⟩:=T0 hr
 have hsz:z.cells.size=(Bi P 8 et).length:=by
  have:=congrArg List.length hz1
  rw [Bv] at this
  simpa using this
 have hrow:Row (TX z m.toNat) 0 (Bi P 8 et) (List.replicate n.toNat r):=fun i j hi hj=>by
  simp only [List.length_replicate] at hi
  unfold TX
  have hlt:i*(Bi P 8 et).length+j<m.toNat*(Bi P 8 et).length:=Oc (by omega) hj
  rw [Array.getElem?_map,Nat.zero_add,hsz,Array.getElem?_range,if_pos hlt]
  have:(i*(Bi P 8 et).length+j)%(Bi P 8 et).length=j:=by rw [Nat.mul_comm,Nat.mul_add_mod,Nat.mod_eq_of_lt hj]
  simp only [Option.map_some,this,List.getElem_replicate,← hz1]
  rw [getElem!_pos z.cells j (by omega)]
  simp
 obtain ⟨θ',h4,h5⟩:=hs.push_list hb (TX z m.toNat) et (Bi P 8 et) (List.replicate n.toNat r) m.toNat (by simp;omega) (by unfold TX;simp [hsz]) hrow
 simp only [List.length_replicate] at h5
 exact Pst.of (fun _=>Hp.Sub.ins _ hb) h4 hp h5
end
def RdC (σ:Hp) (A:aA) (vs:List Value):Prop:=vs=[]∨∃ b off,A=some ⟨b,off,none⟩/\∀ i v,vs[i]? = some v->σ.cell? ⟨b,off+i,none⟩=some v
theorem Nx {P:Program} {σ:Hp} {b off:Nat} {K:Array Value->Hp->Prop}:∀ (vs:List Value) (i:Nat) (acc:Array Value),(∀ j v,vs[j]? = some v->σ.cell? ⟨b,off+(i+j),none⟩=some v)->K (acc++vs.toArray) σ ->
  swp P (loadCellsFrom ⟨b,off,none⟩ i vs.length acc) K σ
 | [],i,acc,_,hk=>by
  simp only [Array.append_empty] at hk
  exact (show K acc σ from by simpa using hk)
 | v::vs,i,acc,hc,hk=>by
  refine ⟨v,?_,?_⟩
  ·rw [Du]
   have:=hc 0 v rfl
   simpa using this
  ·refine Nx vs (i+1) (acc.push v) (fun j u hj=>?_) ?_
   ·have:=hc (j+1) u (by simpa using hj)
    rw [← this]
    congr 2
    omega
   ·have e:acc.push v++vs.toArray=acc++(v::vs).toArray:=by
     rw [← Array.toList_inj]
     simp
    rw [e]
    exact hk
theorem Gx {P:Program} {σ:Hp} {A:aA} {n c size:Nat} {vs:List Value} {K:Array Value->Hp->Prop} (h:RdC σ A vs) (hl:vs.length=n*size) (hA:A=none->vs=[]) (hk:K vs.toArray σ):swp P (Builtin.firstCells size n (.slice A n c)) K σ:=by
 cases A with
 | none=>
  rw [hA rfl] at hk
  exact hk
 | some a=>
  show swp P (loadCells a (n*size)) K σ
  rcases h with rfl | ⟨b,off,hb,hc⟩
  ·rw [← hl]
   exact hk
  ·cases hb
   rw [← hl]
   exact Nx vs 0 #[] (fun j v hj=>by rw [Nat.zero_add];exact hc j v hj) (by simpa using hk)
theorem Sz {b off:Nat} {e:TypeId} {Q:Hp->Prop}:∀ (vs:List Value) (i:Nat) (c:Array Value) (σ:Hp),σ b=some (.cells c e (0,0),true)->(∀ v∈vs,Gg v=true)->off+i+vs.length<=c.size ->
  (∀ c' σ',c'.size=c.size->(∀ j,j<off+i->c'[j]? = c[j]?)->(∀ j,off+i+vs.length<=j->c'[j]? = c[j]?)->(∀ j,j<vs.length->c'[off+i+j]? = vs[j]?)->σ' b=some (.cells c' e (0,0),true)->(∀ k,k≠b->σ' k=σ k)->Q σ') ->
  stc σ b off i vs Q
 | [],i,c,σ,hb,_,_,hq=>hq c σ rfl (fun _ _=>rfl) (fun _ _=>rfl) (fun j h=>by simp at h) hb fun _ _=>rfl
 | v::vs,i,c,σ,hb,ho,hs,hq=>by
  simp only [List.length_cons] at hs hq
  refine DA.2 ⟨ho v (List.mem_cons_self ..),⟨c,e,hb,by rw [KY];show off+i<c.size;omega,rfl⟩,?_⟩
  refine Sz vs (i+1) (c.setIfInBounds (off+i) v) _ (by rw [KY];exact Hp.put_same hb) (fun u hu=>ho u (List.mem_cons_of_mem _ hu)) (by simp;omega) ?_
  intro c' σ' h1 h2 h3 h4 h5 h6
  refine hq c' σ' (by simpa using h1) (fun j hj=>?_) (fun j hj=>?_) (fun j hj=>?_) h5 (fun k hk=>?_)
  ·rw [h2 j (by omega),Array.getElem?_setIfInBounds_ne (by omega)]
  ·rw [h3 j (by omega),Array.getElem?_setIfInBounds_ne (by omega)]
  ·cases j with
   | zero=>
    rw [Nat.add_zero,h2 _ (by omega),Array.getElem?_setIfInBounds_self_of_lt (by omega)]
    rfl
   | succ j=>
    have:=h4 j (by omega)
    rw [show off+i+(j+1)=off+(i+1)+j from by omega,this]
    simp
  ·rw [h6 k hk,Hp.put_ne hk]
theorem Rj {newLen:Nat}:∀ (r c m:Nat),c<=m->2*newLen+384<=m->Builtin.growBy newLen r c<=m
 | 0,c,m,h,_=>h
 | r+1,c,m,h,hm=>by
  unfold Builtin.growBy
  split
  ·exact h
  ·exact Rj r _ m (by omega) hm
theorem PE {n c:Nat} (h:c<n):Builtin.nextslicecap n c<=2*n+384:=by
 unfold Builtin.nextslicecap
 split
 ·omega
 ·split
  ·omega
  ·exact Rj 4 c _ (by omega) (Nat.le_refl _)
theorem Tp {α:Type} {P:Program} {x y:α} {K:α->Hp->Prop} {σ:Hp} (e:x=y) (h:K y σ):swp P (pure x:Sem α) K σ:=by
 rw [e]
 exact h
theorem UH {P:Program} {t0 t1 ty e:TypeId} {ie:TypeInfo} {d:TypeDesc} {z:Value} {σ:Hp} {base xb:aA} {sLen sCap m xc:Nat} {old new:List Value} {K:Value->Hp->Prop}
  (hund:P.underlying t0=some (.slice e)) (hd:P.underlying t1=some d) (hni:∀ k,d≠.int k) (hie:P.info? e=some ie) (hz:ie.zero=some z) (hb:ie.bytes<=4096) (hroom:sLen+m<=4294967296)
  (ho:RdC σ base old) (hol:old.length=sLen*ie.size) (hoA:base=none->old=[]) (hn:RdC σ xb new) (hnl:new.length=m*ie.size) (hnA:xb=none->new=[])
  (hsp:∀ a,base=some a->a.spot=none) (h0:sLen+m<=sCap->base=none->K (.slice none (sLen+m) sCap) σ)
  (h1:sLen+m<=sCap->∀ b off,base=some ⟨b,off,none⟩->stc σ b (off+sLen*ie.size) 0 new fun σ'=>K (.slice (some ⟨b,off,none⟩) (sLen+m) sCap) σ')
  (h2:sCap<sLen+m->∀ newCap b,sLen+m<=newCap->σ b=none->K (.slice (some ⟨b,0,none⟩) (sLen+m) newCap) (σ.ins b (.cells (old.toArray++new.toArray++Builtin.zeroCells z.cells (newCap-(sLen+m))) e))):
  swp P (Builtin.append_ #[t0,t1] ty #[.slice base sLen sCap,.slice xb m xc]) K σ:=by
 unfold Builtin.append_
 simp only [List.getElem?_toArray,List.getElem?_cons_zero,List.getElem?_cons_succ]
 refine Nf hund ?_
 simp only
 refine NS hie ?_
 refine Nf hd ?_
 refine Bl (P:=P) (pure _) _ _ _ ?_
 refine Tp (y:=false) (by cases d<;>first | rfl | exact absurd rfl (hni _)) ?_
 simp only [Bool.false_eq_true,if_false,Bool.not_false,if_true]
 refine Bl (P:=P) (Builtin.lenOf _) _ _ _ ?_
 refine YN _ _ _ ?_
 split
 ·rename_i hcap
  refine Bl _ _ _ _ ?_
  refine Gx hn hnl hnA ?_
  cases base with
  | none=>exact h0 hcap rfl
  | some a=>
   obtain ⟨b,off,sp⟩:=a
   have:sp=none:=hsp _ rfl
   subst this
   have h1:=h1 hcap b off rfl
   simp only
   refine Bl _ _ _ _ ?_
   rw [Du]
   exact GA new 0 σ h1
 ·rename_i hcap
  refine IB hie ?_
  rw [if_neg (by
   have:IntKind.i64.max=9223372036854775807:=by decide
   rw [this]
   omega)]
  refine IB hie ?_
  have hle:=PE (n:=sLen+m) (c:=sCap) (by omega)
  have hmul:Builtin.nextslicecap (sLen+m) sCap*ie.bytes<=(2*(sLen+m)+384)*4096:=Nat.mul_le_mul hle hb
  rw [if_neg (by omega)]
  refine Bl _ _ _ _ ?_
  intro t
  have hf:(Question.appendCap (sLen+m) sCap e).forced=false:=rfl
  rw [hf]
  simp only [Bool.false_eq_true,if_false]
  have hcut:sLen+m<=(Question.appendCap (sLen+m) sCap e).cut t:=Nat.le_add_right _ _
  generalize (Question.appendCap (sLen+m) sCap e).cut t=newCap at hcut
  show swp P _ _ σ
  refine IB hie ?_
  refine Bl _ _ _ _ ?_
  have hroom':∀ {K:Unit->Hp->Prop},K () σ->swp P (askRoom (newCap*ie.bytes)) K σ:=by
   intro K hk
   unfold askRoom
   split
   ·exact hk
   ·exact hk
  refine hroom' ?_
  refine Bl _ _ _ _ ?_
  refine Gx ho hol hoA ?_
  refine Bl _ _ _ _ ?_
  refine Gx hn hnl hnA ?_
  refine KT hie hz ?_
  exact fun b hb'=>h2 (by omega) newCap b hcut hb'
end Go.Proofs.YtoelhdjloaknbaaGreat
