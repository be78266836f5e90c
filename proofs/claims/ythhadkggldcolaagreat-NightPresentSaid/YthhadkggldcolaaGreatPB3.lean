/- Trimmed by wip/trim.py to what this claim rests on. -/
import Derived.Test.YthhadkggldcolaaGreatPB2
namespace Go.Proofs.YthhadkggldcolaaGreat
open Go.RowKit
section
variable {P:Program} {Γ Λ:List LObj} {θ:Nat->Loc} {σ F σc:Hp} {fr:MFr} {vals:Nat->Value} {h:Bool} {K:MV->MFr->List LObj->Hp->Prop}
theorem Xl {x:Value} (h:GF x=true):x.cells=#[x]:=by cases x <;> first | rfl | cases h
theorem Rx {ag:Bool} {n:Nat} {O:Nat->LObj} {m:MV} {u:Value} {Q:List MC->Prop} (h:Qn ag O m Q) (hm:CV n θ O m u):∃ cs,Q cs/\BL (CVc n θ O) cs u.cells.toList:=by
 cases m with
 | v x =>
  rw [(hm:_=_)]
  cases ag with
  | true=>exact ⟨_,h,MN _⟩
  | false =>
   obtain ⟨h1,h2⟩:=DU.1 h
   refine ⟨_,h2,?_⟩
   rw [Xl h1]
   exact .cons rfl .nil
 | bx k o =>
  simp only [Qn] at h
  split at h <;> first | exact h.elim | skip
  rename_i hb
  obtain ⟨e,cs,ho⟩:=Fj hb
  refine ⟨_,h,?_⟩
  rw [hm.2 _ _ ho]
  exact .cons ⟨hm.1,fun _ _ _=>rfl⟩ .nil
 | ls k g =>
  simp only [Qn] at h
  split at h <;> first | exact h.elim | skip
  rename_i hb
  obtain ⟨e,ss,xs,ho⟩:=Jg hb
  refine ⟨_,h,?_⟩
  have:=(hm.2 _ _ _ _ ho).2 rfl
  have hm':CVc n θ O (.ls k g) u:=hm
  rw [this] at hm' ⊢
  exact .cons hm' .nil
 | ep k g i j=>exact h.elim
 | agg cs =>
  obtain ⟨vs,rfl,h2⟩:=hm
  exact ⟨_,h,h2⟩
theorem St.push (hs:St Γ F vals θ fr Λ σ σc) {b:Nat} (hb:σc b=none) (ob:Obj) (l:Loc) {o:LObj} (ho:o≠.lk) (hl:∀ b',blk (upd θ Λ.length l) Λ.length o=some b'->b'=b)
  (hr:Ev Λ.length θ (obj Γ Λ) (upd θ Λ.length l) (upd (obj Γ Λ) Λ.length o)->HD (Λ.length + 1) (upd θ Λ.length l) (upd (obj Γ Λ) Λ.length o) (σc.ins b ob) Λ.length o) :
  St Γ F vals (upd θ Λ.length l) fr (Λ++[o]) σ (σc.ins b ob):=by
 obtain ⟨h1,h2⟩:=hs.hr.push hb ob l o hl hr
 have e:(Λ++[o]).length=Λ.length + 1:=by simp
 refine hs.next ?_ ?_ (by omega)
 ·rw [e,BZ ho]; exact h1
 ·rw [BZ ho]; exact h2
theorem Pst.of {u:Value} {σc':Hp} {θ':Nat->Loc} {fr':MFr} {Λ':List LObj} {σ':Hp} {m:MV} (hsub:h=true->Hp.Sub σc σc') (hs:St Γ F vals θ' fr' Λ' σ' σc') (hk:K m fr' Λ' σ') (hm:CV Λ'.length θ' (obj Γ Λ') m u):Pst Γ F vals h σc K u σc' :=
 ⟨hsub,θ',fr',Λ',σ',m,hs,hm,hk⟩
theorem XH {o:Oper} {e:TypeId} {x:Operand} (hop:o.op=.box e x) (hs:St Γ F vals θ fr Λ σ σc) (hp:Qn (HO P e) (obj Γ Λ) (mev fr x) fun cs=>K (.bx Λ.length 0) fr (Λ++[.box e cs]) σ):lOp P o (evl vals) σc (Pst Γ F vals h σc K):=by
 unfold lOp
 rw [hop]
 show lE P o (evl vals) σc _
 unfold lE
 rw [hop]
 intro b hb
 obtain ⟨cs,hk,ha⟩:=Rx hp (hs.ev x)
 have hst:=hs.push hb (.cells (evl vals x).cells e) ⟨false,b,0,0⟩ (o:=.box e cs) (by simp) (fun b' hb'=>by
  simp only [blk,AC,Option.some.injEq] at hb'; exact hb'.symm) (fun he=>⟨_,by rw [AC]; exact Hp.ins_same _ _ _,ha.imp fun _ _ x=>x.ev he (Nat.le_succ _)⟩)
 refine Pst.of (fun _=>Hp.Sub.ins _ hb) hst hk ⟨by simp,fun e' cs' _=>?_⟩
 rw [AC]
theorem Vs {o:Oper} {e:TypeId} {z:Value} (hop:o.op=.alloc e) (hz:(P.info? e).bind (·.zero)=some z) (hs:St Γ F vals θ fr Λ σ σc) (hp:K (.bx Λ.length 0) fr (Λ++[.box e (z.cells.toList.map .v)]) σ):lOp P o (evl vals) σc (Pst Γ F vals h σc K):=by
 unfold lOp
 rw [hop]
 show lE P o (evl vals) σc _
 unfold lE
 rw [hop]
 simp only [hz]
 intro b hb
 have hst:=hs.push hb (.cells z.cells e) ⟨false,b,0,0⟩ (o:=.box e (z.cells.toList.map .v)) (by simp) (fun b' hb'=>by
  simp only [blk,AC,Option.some.injEq] at hb'; exact hb'.symm) (fun he=>⟨_,by rw [AC]; exact Hp.ins_same _ _ _,MN _⟩)
 refine Pst.of (fun _=>Hp.Sub.ins _ hb) hst hp ⟨by simp,fun e' cs' _=>?_⟩
 rw [AC]
theorem St.push_list (hs:St Γ F vals θ fr Λ σ σc) {b:Nat} (hb:σc b=none) (cells:Array Value) (e:TypeId) (ss:List Sh) (xs:List (TyR ss)) (c:Nat) (hc:xs.length<=c) (hz:c * ss.length<=cells.size) (hr:Row cells 0 ss xs) :
  ∃ θ',St Γ F vals θ' fr (Λ++[.lst e 0 ss xs]) σ (σc.ins b (.cells cells e))/\CV (Λ++[LObj.lst e 0 ss xs]).length θ' (obj Γ (Λ++[.lst e 0 ss xs])) (.ls Λ.length 0) (.slice (some ⟨b,0,none⟩) xs.length c):=by
 refine ⟨upd θ Λ.length ⟨false,b,0,c⟩,hs.push hb (.cells cells e) ⟨false,b,0,c⟩ (by simp) (fun b' hb'=>?_) (fun _=>?_),by simp,fun e' g' ss' xs' h=>?_⟩
 ·simp only [blk,AC,Option.some.injEq] at hb'; exact hb'.symm
 ·refine ⟨by rw [AC]; exact hc,?_⟩
  rw [AC]
  exact ⟨cells,Hp.ins_same _ _ _,by simpa using hz,hr⟩
 ·rw [BZ (by simp),AC] at h
  cases h
  exact ⟨Nat.le_refl _,fun _=>by rw [AC]; rfl⟩
theorem St.push_empty (hs:St Γ F vals θ fr Λ σ σc) (e:TypeId) (ss:List Sh) :
  ∃ θ',St Γ F vals θ' fr (Λ++[.lst e 0 ss []]) σ σc/\CV (Λ++[LObj.lst e 0 ss []]).length θ' (obj Γ (Λ++[.lst e 0 ss []])) (.ls Λ.length 0) (.slice none 0 0):=by
 obtain ⟨h1,h2⟩:=hs.hr.push_nil e ss
 have el:(Λ++[LObj.lst e 0 ss []]).length=Λ.length + 1:=by simp
 refine ⟨_,hs.next (θ':=upd θ Λ.length ⟨true,0,0,0⟩) ?_ ?_ (by omega),by simp,fun e' g' ss' xs' h=>?_⟩
 ·rw [el,BZ (by simp)]; exact h1
 ·rw [BZ (by simp)]; exact h2
 ·rw [BZ (by simp),AC] at h
  cases h
  exact ⟨Nat.le_refl _,fun _=>by rw [AC]; rfl⟩
theorem Tx {ss:List Sh}:∀ {n:Nat} {cs:List Value} {xs:List (TyR ss)},UU ss n cs=some xs->cs.length=n * ss.length->xs.length=n/\cs=C3 ss xs
 | 0,cs,xs,h,hl=>by
  cases h
  have:cs=[]:=List.length_eq_zero_iff.1 (by omega)
  exact ⟨rfl,by rw [this]; rfl⟩
 | n + 1,cs,xs,h,hl=>by
  simp only [UU] at h
  split at h
  ·rename_i x hx
   split at h
   ·rename_i ys hy
    cases h
    have hl2:(cs.drop ss.length).length=n * ss.length:=by
     rw [List.length_drop,hl,Nat.add_mul]
     omega
    obtain ⟨h1,h2⟩:=Tx hy hl2
    obtain ⟨h3,_⟩:=Wt hx
    refine ⟨by simp [h1],?_⟩
    unfold C3 at h2 ⊢
    rw [List.flatMap_cons,← h2,← h3,List.take_append_drop]
   ·cases h
  ·cases h
theorem Xb {ss:List Sh} {xs:List (TyR ss)} {post:List Value}:Row ⟨C3 ss xs++post⟩ 0 ss xs:=Row.of_flat fun i hi=>by
 simp only [Nat.zero_add]
 rw [List.getElem?_toArray,List.getElem?_append_left (by rw [B9]; exact hi)]
theorem AcU {fr:MFr} {parts:List (Nat×Operand)} (h:(parts.all fun p=>isV (mev fr p.2))=true) (hs:St Γ F vals θ fr Λ σ σc):parts.map (fun (p:Nat×Operand)=>(p.1,cvl (mev fr p.2)))=parts.map fun p=>(p.1,evl vals p.2) :=
 List.map_congr_left fun p hp=>by
  have h1:=List.all_eq_true.1 h p hp
  have h2:=hs.ev p.2
  cases hm:mev fr p.2 with
  | v x=>rw [hm] at h2; rw [(h2:_=_)]; rfl
  | _=>rw [hm] at h1; cases h1
theorem O1 {o:Oper} {t:TypeId} {len:Nat} {parts:Array (Nat×Operand)} {p:Prop} (hop:o.op=.buildSlice t len parts) (hs:St Γ F vals θ fr Λ σ σc) (e:Mb P fr Λ σ K t len parts.toList=some p) (hp:p):lOp P o (evl vals) σc (Pst Γ F vals h σc K):=by
 unfold lOp
 rw [hop]
 show lE P o (evl vals) σc _
 unfold lE
 rw [hop]
 unfold Mb at e
 split at e <;> first | cases e | skip
 rename_i et hu
 split at e <;> first | cases e | skip
 rename_i ie hie hall
 simp only [hu,hie]
 split at e <;> first | cases e | skip
 ·rename_i z hz hd1 hd2 hsz
  simp only [hz,hd1,hd2]
  rw [AcU hall hs] at e
  split at e <;> first | cases e | skip
  rename_i cs hf
  simp only [hf]
  split at e <;> first | cases e | skip
  rename_i xs hl hxs
  have hsz:=Nat.eq_of_beq_eq_true hsz
  have hl:=Nat.eq_of_beq_eq_true hl
  rw [hsz] at hl
  obtain ⟨h1,h2⟩:=Tx hxs hl
  intro b hb
  have e1:cs=⟨C3 (BF P 8 et) xs++[]⟩:=by
   rw [List.append_nil,← h2]
  obtain ⟨θ',h3,h4⟩:=hs.push_list hb cs et (BF P 8 et) xs len (by omega) (by rw [← hl]; simp) (by rw [e1]; exact Xb)
  rw [h1] at h4
  exact Pst.of (fun _=>Hp.Sub.ins _ hb) h3 hp h4
 ·rename_i z hz hd1 hd2
  simp only [hz,hd1,hd2]
  split at e <;> first | cases e | skip
  rename_i hpar
  simp only [hpar]
  intro b hb
  obtain ⟨θ',h3,h4⟩:=hs.push_list hb #[] et (BF P 8 et) [] 0 (Nat.le_refl _) (by simp) (fun i j hi=>by simp at hi)
  exact Pst.of (fun _=>Hp.Sub.ins _ hb) h3 hp h4
theorem QI {o:Oper} {t:TypeId} {l c:Operand} {p:Prop} (hop:o.op=.makeSlice t l c) (hs:St Γ F vals θ fr Λ σ σc) (e:O0 P fr Λ σ K t l c=some p) (hp:p):lOp P o (evl vals) σc (Pst Γ F vals h σc K):=by
 unfold lOp
 rw [hop]
 show lE P o (evl vals) σc _
 unfold lE
 rw [hop]
 unfold O0 at e
 split at e <;> first | cases e | skip
 rename_i et hu
 split at e <;> first | cases e | skip
 rename_i ie hie
 split at e <;> first | cases e | skip
 rename_i z k1 n k2 m hz hn hm h0
 split at e <;> first | cases e | skip
 rename_i r hr
 have hvn:=hs.ev l
 have hvm:=hs.ev c
 rw [hn] at hvn
 rw [hm] at hvm
 have hvn:evl vals l=.int k1 n:=hvn
 have hvm:evl vals c=.int k2 m:=hvm
 simp only [hu,hie,hz,hvn,hvm,h0]
 obtain ⟨h1,h2,h3,hp⟩:=hp
 refine ⟨h1,h2,h3,fun b hb=>?_⟩
 obtain ⟨hz1,_⟩:=Wt hr
 have hsz:z.cells.size=(BF P 8 et).length:=by
  have:=congrArg List.length hz1
  rw [BS] at this
  simpa using this
 have hrow:Row (V8 z m.toNat) 0 (BF P 8 et) (List.replicate n.toNat r):=fun i j hi hj=>by
  simp only [List.length_replicate] at hi
  unfold V8
  have hlt:i * (BF P 8 et).length + j < m.toNat * (BF P 8 et).length:=QJ (by omega) hj
  rw [Array.getElem?_map,Nat.zero_add,hsz,Array.getElem?_range,if_pos hlt]
  have:(i * (BF P 8 et).length + j) % (BF P 8 et).length=j:=by rw [Nat.mul_comm,Nat.mul_add_mod,Nat.mod_eq_of_lt hj]
  simp only [Option.map_some,this,List.getElem_replicate,← hz1]
  rw [getElem!_pos z.cells j (by omega)]
  simp
 obtain ⟨θ',h4,h5⟩:=hs.push_list hb (V8 z m.toNat) et (BF P 8 et) (List.replicate n.toNat r) m.toNat (by simp; omega) (by unfold V8; simp [hsz]) hrow
 simp only [List.length_replicate] at h5
 exact Pst.of (fun _=>Hp.Sub.ins _ hb) h4 hp h5
end
end Go.Proofs.YthhadkggldcolaaGreat
