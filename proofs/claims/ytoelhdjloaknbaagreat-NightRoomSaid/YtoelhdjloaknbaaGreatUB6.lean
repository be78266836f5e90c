/- What this claim rests on. -/
import Derived.Test.YtoelhdjloaknbaaGreatUB5
namespace Go.Proofs.YtoelhdjloaknbaaGreat
open Go.RowKit
section
variable {P:Program} {Γ Λ:List LObj} {θ:Nat->Loc} {σ F σc:Hp} {fr:MFr} {vals:Nat->Value} {h:Bool} {K:MV->MFr->List LObj->Hp->Prop}
theorem Zz {l:List Operand} (hall:(l.all fun x=>isV (mev fr x))=true) (hs:St Γ F vals θ fr Λ σ σc):∀ x∈l,cvl (mev fr x)=evl vals x:=fun x hx=>by
 have h1:=List.all_eq_true.1 hall x hx
 have h2:=hs.ev x
 cases hm:mev fr x with
 | v y=>rw [hm] at h2;rw [(h2:_=_)];rfl
 | _=>rw [hm] at h1;cases h1
theorem WW {σ σ':Hp} {p:Prop} (x:Xq h σ σ' p):(h=true->Hp.Sub σ σ')/\p:=by
 cases h
 ·exact ⟨(fun e=>by cases e),x⟩
 ·exact ⟨fun _=>x.1,x.2⟩
theorem Frm.sub {σ σc σ' sc':Hp} (hf:Frm σ σc σ' sc') (h0:Hp.Sub σ σc) (hs:Hp.Sub σ σ'):Hp.Sub σc sc':=fun b x e=>by
 cases eb:σ b with
 | none=>exact (hf.2 b x eb e).1
 | some y=>
  have h1:=h0 b y eb
  rw [e] at h1
  cases h1
  exact hf.1 b x (hs b x eb)
theorem TI (hs:St Γ F vals θ fr Λ σ σc):∀ l:List Operand,Bq (CV Λ.length θ (obj Γ Λ)) (l.map (mev fr)) (l.map (evl vals))
 | []=>.nil
 | x::l=>.cons (hs.ev x) (TI hs l)
theorem QA {o:Oper} (hs:St Γ F vals θ fr Λ σ σc) (hp:Zf P h o fr Λ σ K):lOp P o (evl vals) σc (Pst Γ F vals h σc K):=by
 unfold Zf at hp
 obtain ⟨fr',Λ',σ',h1,h2,hp,_⟩:=Ge _ _ _ _ _ _ _ hp hs.hr hs.fr (TI hs _)
 have hs':St Γ F vals θ fr' Λ' σ' σc:=⟨h1,h2⟩
 split at hp<;>first | exact hp.elim | skip
 rename_i hall
 have hops:=Zz hall hs'
 unfold lOp
 split at hp
 ·rename_i hy
  rw [hy]
  exact QG hops (XD h1.sub (IT (fun v hk=>hs'.pst (m:=.v v) hk rfl) hp))
 ·rename_i hy
  rw [hy]
  show lE P o (evl vals) σc _
  have hfr:∀ {v:Value} {s'' sc':Hp},Xq h σ' s'' (K (.v v) fr' Λ' s'')->Frm σ' σc s'' sc'->Pst Γ F vals h σc K v sc':=by
   intro v s'' sc' hk hf
   obtain ⟨hh,hk⟩:=WW hk
   exact Pst.of (fun e=>hf.sub h1.sub (hh e)) ⟨h1.frm hf,h2⟩ hk rfl
  split at hp
  ·rename_i f args ts hop
   have hf:=hops f (by rw [hop];simp [Op.operands,Call.operands])
   have ha:C1 (fun x=>cvl (mev fr' x)) args=C1 (evl vals) args:=by
    unfold C1
    rw [Ca fun x hx=>hops x (by rw [hop];simp [Op.operands,Call.operands];exact .inr (by simpa using hx))]
   rw [hf,ha] at hp
   unfold lE
   rw [hop]
   exact (hp σc h1.sub).mono fun v sc' ⟨s'',hR,hf⟩=>NF (fun u hk=>hfr hk hf) hR
  ·rename_i f m args ts hop
   have hf:=hops f (by rw [hop];simp [Op.operands,Call.operands])
   have ha:C1 (fun x=>cvl (mev fr' x)) args=C1 (evl vals) args:=by
    unfold C1
    rw [Ca fun x hx=>hops x (by rw [hop];simp [Op.operands,Call.operands];exact .inr (by simpa using hx))]
   rw [hf,ha] at hp
   unfold lE
   rw [hop]
   unfold Abm at hp
   simp only
   split at hp<;>first | exact hp.elim | skip
   rename_i t v e
   obtain ⟨g,rv,h3,h4,h5⟩:=hp
   try rw [e]
   exact ⟨g,rv,PJ h1.sub h3,h4,(h5 σc h1.sub).mono fun v sc' ⟨s'',hR,hf⟩=>NF (fun u hk=>hfr hk hf) hR⟩
  ·have hcv:FE o.op=false:=by
    cases hc:FE o.op with
    | false=>rfl
    | true=>
     exfalso
     rename_i hne1 hne2
     unfold FE at hc
     split at hc
     ·rename_i c hop
      exact hne1 _ _ _ hop
     ·rename_i hop
      exact hne2 _ _ _ _ hop
     ·cases hc
   exact NE hops (Vq (fun v sc' ⟨s'',hk,hf⟩=>hfr hk hf) (Aa6 hcv h1.sub hp))
theorem V2 {o:Oper} (hs:St Γ F vals θ fr Λ σ σc) (hp:mOp P Γ h o fr Λ σ K):lOp P o (evl vals) σc (Pst Γ F vals h σc K):=by
 unfold mOp at hp
 split at hp
 ·rename_i p e
  unfold mSp at e
  split at e
  ·rename_i x hop
   cases e
   unfold lOp
   rw [hop]
   exact hs.pst hp (hs.ev x)
  ·rename_i x hop
   cases e
   unfold lOp
   rw [hop]
   exact hs.pst hp (hs.ev x)
  ·rename_i c a b hop
   have hc:=hs.ev c
   unfold lOp
   rw [hop]
   show lY P (.pick c a b) _ _ _
   split at e
   ·rename_i hm
    cases e
    rw [hm] at hc
    have hc:evl vals c=.bool true:=hc
    simp only [lY,hc]
    exact hs.pst hp (hs.ev a)
   ·rename_i hm
    cases e
    rw [hm] at hc
    have hc:evl vals c=.bool false:=hc
    simp only [lY,hc]
    exact hs.pst hp (hs.ev b)
   ·cases e
  ·rename_i x hop;exact Uf hop hs e hp
  ·rename_i s x f hop;exact ON hop hs e hp
  ·rename_i t x hop;exact TY hop hs e hp
  ·rename_i t x i hop;exact Ov hop hs e hp
  ·rename_i args ts hop;exact Us hop hs e hp
  ·rename_i e' x hop;cases e;exact Ux hop hs hp
  ·rename_i e' hop
   split at e
   ·rename_i z hz;cases e;exact SF hop hz hs hp
   ·cases e;exact hp.elim
  ·rename_i t len parts hop;exact N6 hop hs e hp
  ·rename_i t l c hop;exact OI hop hs e hp
  ·rename_i t x v hop;exact RX hop hs e hp
  ·rename_i t x lo hi hop;exact Sc hop hs e hp
  ·rename_i args ts hop;exact Q4 hop hs e hp
  ·cases e
 ·exact QA hs hp
end
inductive Gh where
 | adl (t:Tmp) (e:TypeId) (ss:List Sh)
 | adb (t:Tmp) (e:TypeId) (ss:List Sh)
 | exp (t:Tmp)
 | adc (k j:Nat) (e:TypeId) (ss:List Sh)
 | ty (t:Tmp) (ag:Bool) (ss:List Sh)
 | raw
def adb (e:TypeId) (ss:List Sh) (p:aA) (σ:Hp) (K:TyR ss->Hp->Prop):Prop:=∃ b r σ',p=some ⟨b,0,none⟩/\σ' b=none/\σ=σ'.ins b (.cells ⟨BO ss r⟩ e)/\K r σ'
def gh (g:Gh) (fr:MFr) (Λ:List LObj) (σ:Hp) (K:MFr->List LObj->Hp->Prop):Prop:=match g with
 | .adl t e ss=>match B8 fr t with
  | .v (.slice A n c)=>adp e ss A n c σ fun xs σ'=>K (.cons t (.ls Λ.length 0) fr) (Λ++[.lst e 0 ss xs]) σ'
  | _=>False
 | .adb t e ss=>match B8 fr t with
  | .v (.pointer p)=>adb e ss p σ fun r σ'=>K (.cons t (.bx Λ.length 0) fr) (Λ++[.box e ((BO ss r).map .v)]) σ'
  | _=>False
 | .exp t=>Fa 12 [B8 fr t] fr Λ σ fun _=>K
 | .adc k j e ss=>match AI Λ k with
  | .box e' cs=>match cs.drop j with
   | .v (.slice A n c)::_=>adp e ss A n c σ fun xs σ'=>K fr (BJ Λ k (.box e' (cs.set j (.ls Λ.length 0)))++[.lst e 0 ss xs]) σ'
   | _=>False
  | _=>False
 | .ty t ag ss=>match B8 fr t with
  | .v x=>tyL ss fun vs=>match ag with
   | true=>x=.agg ⟨vs⟩/\K (.cons t (.v (.agg ⟨vs⟩)) fr) Λ σ
   | false=>x=vs.headD undef/\K (.cons t (.v (vs.headD undef)) fr) Λ σ
  | _=>False
 | .raw=>K fr Λ σ
def ghs:List Gh->MFr->List LObj->Hp->(MFr->List LObj->Hp->Prop)->Prop
 | [],fr,Λ,σ,K=>K fr Λ σ
 | g::gs,fr,Λ,σ,K=>gh g fr Λ σ fun fr Λ σ=>ghs gs fr Λ σ K
section
variable {P:Program} {Γ Λ:List LObj} {θ:Nat->Loc} {σ F σc:Hp} {fr:MFr} {vals:Nat->Value}
theorem D3 (k:Nat) (v:MV) (fr:MFr) (t:Nat):B8 (.cons k v fr) t=if k=t then v else B8 fr t:=by
 show (match Nat.beq k t with | true=>v | false=>B8 fr t)=_
 split
 ·rename_i e;rw [if_pos (Nat.eq_of_beq_eq_true e)]
 ·rename_i e;rw [if_neg (Nat.ne_of_beq_eq_false e)]
theorem St.cons (hs:St Γ F vals θ fr Λ σ σc) {t:Nat} {m:MV} (hm:CV Λ.length θ (obj Γ Λ) m (vals t)):St Γ F vals θ (.cons t m fr) Λ σ σc:=
 ⟨hs.hr,fun i=>by
  rw [D3]
  split
  ·rename_i e;subst e;exact hm
  ·exact hs.fr i⟩
theorem YB {g:Gh} {K:MFr->List LObj->Hp->Prop} (hs:St Γ F vals θ fr Λ σ σc) (hp:gh g fr Λ σ K):∃ θ' fr' Λ' σ',St Γ F vals θ' fr' Λ' σ' σc/\K fr' Λ' σ':=by
 unfold gh at hp
 split at hp
 ·rename_i t e ss
  split at hp<;>first | exact hp.elim | skip
  rename_i A n c hm
  obtain ⟨xs,σ',ho,hp⟩:=hp
  have ht:=hs.fr t
  rw [hm] at ht
  obtain ⟨θ',h1,h2⟩:=hs.adopt ho
  exact ⟨θ',_,_,_,h1.cons (by rw [(ht:vals t=_)];exact h2),hp⟩
 ·rename_i t e ss
  split at hp<;>first | exact hp.elim | skip
  rename_i p hm
  obtain ⟨b,r,σ',rfl,hb,rfl,hp⟩:=hp
  have ht:=hs.fr t
  rw [hm] at ht
  have el:(Λ++[LObj.box e ((BO ss r).map .v)]).length=Λ.length+1:=by simp
  obtain ⟨h1,h2⟩:=hs.hr.take hb ⟨false,b,0,0⟩ (.box e ((BO ss r).map .v)) (fun b' hb'=>by
   simp only [blk,Au,Option.some.injEq] at hb';exact hb'.symm) (fun hx _=>⟨BO ss r,by rw [Au];exact hx,Lk _⟩)
  have h3:St Γ F vals (upd θ Λ.length ⟨false,b,0,0⟩) fr (Λ++[LObj.box e ((BO ss r).map .v)]) σ' σc:=hs.next (by rw [el,BD (by simp)];exact h1) (by rw [BD (by simp)];exact h2) (by omega)
  have hcv:CV (Λ++[LObj.box e ((BO ss r).map .v)]).length (upd θ Λ.length ⟨false,b,0,0⟩) (obj Γ (Λ++[LObj.box e ((BO ss r).map .v)])) (.bx Λ.length 0) (vals t):=⟨by omega,fun e' cs' _=>by
   rw [(ht:vals t=_),Au]⟩
  exact ⟨_,_,_,_,h3.cons hcv,hp⟩
 ·rename_i t
  obtain ⟨fr',Λ',σ',h1,h2,hp,_⟩:=Ge _ _ _ _ _ _ _ hp hs.hr hs.fr (.cons (hs.fr t) .nil)
  exact ⟨θ,fr',Λ',σ',⟨h1,h2⟩,hp⟩
 ·rename_i k j e ss
  split at hp<;>first | exact hp.elim | skip
  rename_i e' cs hk
  split at hp<;>first | exact hp.elim | skip
  rename_i A n c cs' hd
  obtain ⟨xs,σ',ho,hp⟩:=hp
  obtain ⟨θ',h1,h2⟩:=hs.adopt ho
  have hlt:k<Λ.length:=Dz (by rw [hk];simp)
  have hk':AI (Λ++[LObj.lst e 0 ss xs]) k=.box e' cs:=by rw [D1,if_pos hlt];exact hk
  have hob:=BY (Γ:=Γ) hk' (by simp)
  have hreal:=h1.hr.real k
  rw [hob] at hreal
  obtain ⟨vs,hb,ha⟩:=hreal
  have hj:cs[j]? = some (.v (.slice A n c)):=Fj hd
  obtain ⟨u,hu,hcu⟩:=ha.get hj
  have hcu:u=.slice A n c:=hcu
  subst hcu
  have hlen:(BJ Λ k (.box e' (cs.set j (.ls Λ.length 0)))++[LObj.lst e 0 ss xs])=BJ (Λ++[LObj.lst e 0 ss xs]) k (.box e' (cs.set j (.ls Λ.length 0))):=by
   have:∀ (l:List LObj) (k:Nat) (o x:LObj),k<l.length->BJ l k o++[x]=BJ (l++[x]) k o:=by
    intro l
    induction l with
    | nil=>intro k o x h;simp at h
    | cons y l ih=>
     intro k o x h
     cases k with
     | zero=>rfl
     | succ k=>simp only [BJ,List.cons_append];rw [ih k o x (by simpa using h)]
   exact this _ _ _ _ hlt
  rw [hlen] at hp
  have hlt':k<(Λ++[LObj.lst e 0 ss xs]).length:=by simp;omega
  obtain ⟨t1,t2⟩:=h1.hr.turn (n':=(Λ++[LObj.lst e 0 ss xs]).length) (θ':=θ') (O':=upd (obj Γ (Λ++[LObj.lst e 0 ss xs])) k (.box e' (cs.set j (.ls Λ.length 0)))) (σ':=σ') (sc':=σc) k (Nat.le_refl _) hlt' (fun i hi=>⟨DK _ _ hi,rfl⟩)
   (fun _=>by rw [Au];exact ⟨(fun e1 cs1 h=>by cases h;exact ⟨cs,hob,rfl⟩),(fun _ _ _ _ h=>by cases h)⟩) h1.hr.sub (fun b x h=>⟨rfl,h1.hr.dis b x h⟩) (fun i _ b h=>⟨rfl,(h1.hr.sep i b h).1⟩)
   (fun hev=>by
    rw [Au]
    have hcell:CVc (Λ++[LObj.lst e 0 ss xs]).length θ' (obj Γ (Λ++[LObj.lst e 0 ss xs])) (.ls Λ.length 0) (.slice A n c):=h2
    have hset:=(ha.set hcell j).imp fun _ _ x=>x.ev hev (Nat.le_refl _)
    have hsame:vs.set j (.slice A n c)=vs:=by
     apply List.ext_getElem?
     intro i
     rw [List.getElem?_set]
     split
     ·rename_i e;subst e
      split
      ·exact hu.symm
      ·rename_i hn
       rw [List.getElem?_eq_none (by omega)]
     ·rfl
    rw [hsame] at hset
    exact ⟨vs,hb,hset⟩) (fun b h=>by rw [Au] at h;exact h1.hr.own (k:=k) (by rw [hob];exact h))
  refine ⟨θ',fr,_,_,h1.next ?_ ?_ (by rw [Bd];exact Nat.le_refl _),hp⟩
  ·rw [Bd,CQ hlt' (by simp)];exact t1
  ·rw [CQ hlt' (by simp)];exact t2
 ·rename_i t ag ss
  split at hp<;>first | exact hp.elim | skip
  rename_i x hm
  have ht:=hs.fr t
  rw [hm] at ht
  have ht:vals t=x:=ht
  obtain ⟨vs,hp'⟩:=SI hp
  clear hp
  have hp:=hp'
  clear hp'
  split at hp
  ·obtain ⟨rfl,hp⟩:=hp
   exact ⟨θ,_,_,_,hs.cons (m:=.v (.agg ⟨vs⟩)) ht,hp⟩
  ·obtain ⟨rfl,hp⟩:=hp
   exact ⟨θ,_,_,_,hs.cons (m:=.v (vs.headD undef)) ht,hp⟩
 ·exact ⟨θ,_,_,_,hs,hp⟩
theorem Lh:∀ {gs:List Gh} {K:MFr->List LObj->Hp->Prop} {θ:Nat->Loc} {fr:MFr} {Λ:List LObj} {σ:Hp},St Γ F vals θ fr Λ σ σc->ghs gs fr Λ σ K->∃ θ' fr' Λ' σ',St Γ F vals θ' fr' Λ' σ' σc/\K fr' Λ' σ'
 | [],_,_,_,_,_,hs,hp=>⟨_,_,_,_,hs,hp⟩
 | _::_,_,_,_,_,_,hs,hp=>by
  obtain ⟨θ',fr',Λ',σ',h1,h2⟩:=YB hs hp
  exact Lh h1 h2
end
structure OA where
 pre:List Gh
 g:Bool
 post:List Gh
def Yw (ops:List Oper) (fr:MFr) (o:Oper):Bool:=match o.guard with
 | none=>true
 | some (j,want)=>match L8 ops j with
  | some oj=>match oj.dst with
   | some d=>match B8 fr d with
    | .v (.bool b)=>eqB b want
    | _=>false
   | none=>false
  | none=>false
def Up (ops:List Oper) (fr:MFr) (o:Oper):Bool:=match o.guard with
 | none=>true
 | some (j,_)=>match L8 ops j with
  | some oj=>match oj.dst with
   | some d=>isV (B8 fr d)
   | none=>true
  | none=>true
def Aae (g:Bool) (m:MV) (k:MV->Prop):Prop:=match g with
 | true=>match m with
  | .v (.bool b)=>bc b (k (.v (.bool true))) (k (.v (.bool false)))
  | .v x=>k (.v x)
  | _=>False
 | false=>k m
def AbC:List Gh->Bool
 | .raw::_=>true
 | _=>false
def Abv (P:Program) (Γ:List LObj) (r h:Bool) (o:Oper) (fr:MFr) (Λ:List LObj) (σ:Hp) (K:MV->MFr->List LObj->Hp->Prop):Prop:=match r with
 | true=>Zf P h o fr Λ σ K
 | false=>mOp P Γ h o fr Λ σ K
def O8 (P:Program) (Γ:List LObj) (ops:List Oper) (h:Bool) (a:OA) (o:Oper) (Q:MFr->List LObj->Hp->Prop) (fr:MFr) (Λ:List LObj) (σ:Hp):Prop:=match Up ops fr o,Yw ops fr o with
 | true,true=>ghs a.pre fr Λ σ fun fr Λ σ=>Abv P Γ (AbC a.pre) h o fr Λ σ fun m fr Λ σ=>Aae a.g m fun m=>ghs a.post (Aan fr o.dst m) Λ σ Q
 | true,false=>Q (Aan fr o.dst (.v undef)) Λ σ
 | false,_=>False
def AaY (P:Program) (Γ:List LObj) (ops:List Oper):List Oper->List OA->(MFr->List LObj->Hp->Prop)->MFr->List LObj->Hp->Prop
 | [],_,Q,fr,Λ,σ=>Q fr Λ σ
 | o::os,ns,Q,fr,Λ,σ=>O8 P Γ ops false (ns.headD ⟨[],false,[]⟩) o (AaY P Γ ops os ns.tail Q) fr Λ σ
inductive MPlan where
 | done
 | take (i:Nat) (a:OA) (p:MPlan)
 | new (i:Nat) (a:OA) (p:MPlan)
 | alt (i:Nat) (h:Bool) (a:OA) (p more:MPlan)
def MPlan.plan:MPlan->Mn
 | .done=>.done
 | .take i a p=>.take i a.g p.plan
 | .new i a p=>.new i a.g p.plan
 | .alt i h a p more=>.alt i a.g h p.plan more.plan
def MPlan.isDone:MPlan->Bool
 | .done=>true
 | _=>false
def JC (P:Program) (Γ:List LObj) (ops:List Oper):MPlan->(MFr->List LObj->Hp->Prop)->MFr->List LObj->Hp->Prop
 | .done,Q,fr,Λ,σ=>Q fr Λ σ
 | .take i a p,Q,fr,Λ,σ=>match L8 ops i with
  | some o=>O8 P Γ ops false a o (JC P Γ ops p Q) fr Λ σ
  | none=>False
 | .new i a p,Q,fr,Λ,σ=>match L8 ops i with
  | some o=>O8 P Γ ops false a o (JC P Γ ops p Q) fr Λ σ
  | none=>False
 | .alt i h a p more,Q,fr,Λ,σ=>match L8 ops i,more.isDone with
  | some o,true=>O8 P Γ ops h a o (JC P Γ ops p Q) fr Λ σ
  | some o,false=>O8 P Γ ops h a o (JC P Γ ops p Q) fr Λ σ/\JC P Γ ops more Q fr Λ σ
  | none,_=>False
theorem Ud {P:Program} {Γ Λ:List LObj} {θ:Nat->Loc} {σ F σc:Hp} {fr:MFr} {vals:Nat->Value} {r h:Bool} {K:MV->MFr->List LObj->Hp->Prop} {o:Oper} (hs:St Γ F vals θ fr Λ σ σc) (hp:Abv P Γ r h o fr Λ σ K):lOp P o (evl vals) σc (Pst Γ F vals h σc K):=by
 cases r
 ·exact V2 hs hp
 ·exact QA hs hp
structure MR (nt:Nat) (Γ:List LObj) (F:Hp) (θ:Nat->Loc) (fr:MFr) (Λ:List LObj) (σ:Hp) (a:Act) (σc:Hp):Prop where
 size:a.tmps.size=nt
 defs:a.defers=[]
 st:St Γ F (fun t=>a.tmps.getD t undef) θ fr Λ σ σc
def MK (nt:Nat) (Γ:List LObj) (F:Hp) (K:MFr->List LObj->Hp->Prop):Act->Hp->Prop:=fun a σc=>∃ θ fr Λ σ,MR nt Γ F θ fr Λ σ a σc/\K fr Λ σ
section
variable {P:Program} {Γ Λ:List LObj} {θ:Nat->Loc} {σ F σc:Hp} {fr:MFr} {nt:Nat} {a:Act}
theorem TD (ts:Array Value) (d:Nat) (v:Value) (t:Nat) (hd:d<ts.size):(ts.setIfInBounds d v).getD t undef=if d=t then v else ts.getD t undef:=by
 simp only [Array.getD_eq_getD_getElem?,Array.getElem?_setIfInBounds]
 split
 ·rename_i e;subst e;simp
 ·rfl
theorem QO (a:Act):a.eval=evl fun t=>a.tmps.getD t undef:=by
 funext x
 cases x<;>rfl
theorem MR.put (hr:MR nt Γ F θ fr Λ σ a σc) {m:MV} {u:Value} (hm:CV Λ.length θ (obj Γ Λ) m u) (d:Option Tmp) (hd:∀ t,d=some t->t<nt):MR nt Γ F θ (Aan fr d m) Λ σ (a.put d u) σc:=by
 cases d with
 | none=>exact hr
 | some d=>
  have hlt:=hd d rfl
  refine ⟨by simp [Act.put,hr.size],hr.defs,hr.st.hr,fun t=>?_⟩
  show CV _ _ _ (B8 (.cons d m fr) t) ((a.tmps.setIfInBounds d u).getD t undef)
  rw [TD _ _ _ _ (by rw [hr.size];exact hlt),D3]
  split
  ·exact hm
  ·exact hr.st.fr t
theorem MR.wanted (hr:MR nt Γ F θ fr Λ σ a σc) (ops:Array Oper) (o:Oper) (hok:Up ops.toList fr o=true):Region.wanted o (yielded ops a.tmps)=Yw ops.toList fr o:=by
 unfold Region.wanted Yw
 unfold Up at hok
 cases hg:o.guard with
 | none=>rfl
 | some jw=>
  obtain ⟨j,want⟩:=jw
  rw [hg] at hok
  simp only [Eu] at hok ⊢
  unfold yielded
  cases hj:ops[j]? with
  | none=>rfl
  | some oj=>
   simp only [Option.bind_some]
   rw [hj] at hok
   cases hd:oj.dst with
   | none=>rfl
   | some d=>
    simp only [Option.bind_some]
    simp only [hd] at hok
    have hv:=hr.st.fr d
    simp only [Array.getD_eq_getD_getElem?] at hv
    cases hm:B8 fr d with
    | v x=>
     rw [hm] at hv
     have hv:(a.tmps[d]?).getD undef=x:=hv
     cases e:a.tmps[d]? with
     | none=>rw [e] at hv;simp only [Option.getD_none] at hv;rw [← hv];rfl
     | some v=>
      rw [e] at hv
      simp only [Option.getD_some] at hv
      rw [← hv]
      cases v<;>first | rfl | (rename_i b;simp only [XE];rfl)
    | _=>rw [hm] at hok;cases hok
theorem Ya {ops:Array Oper} {i:Nat} {g:Bool} {m:MV} {u:Value} {n:Nat} {O:Nat->LObj} {k:MV->Prop} {k':Value->Prop} (hg:eqB g (isG ops i)=true) (hm:CV n θ O m u) (h:Aae g m k) (hk:∀ m u,CV n θ O m u->k m->k' u):gsp ops i u k':=by
 have e:g=isG ops i:=by rw [XE] at hg;simpa using hg
 unfold Aae at h
 unfold gsp
 rw [← e]
 split at h
 ·split at h
  ·rename_i b
   rw [(hm:_=_)]
   exact PP (fun h=>hk (.v (.bool true)) _ rfl h) (fun h=>hk (.v (.bool false)) _ rfl h) h
  ·rename_i x hn
   rw [(hm:_=_)]
   cases x<;>first | exact absurd rfl (hn _) | exact hk (.v _) _ rfl h
  ·exact h.elim
 ·exact hk _ _ hm h
theorem Lu {ops:Array Oper} {i:Nat} {h:Bool} {an:OA} {o:Oper} {Q:MFr->List LObj->Hp->Prop} (hd:∀ t,o.dst=some t->t<nt) (hg:eqB an.g (isG ops i)=true) (hr:MR nt Γ F θ fr Λ σ a σc) (hs:O8 P Γ ops.toList h an o Q fr Λ σ):
  match Region.wanted o (yielded ops a.tmps) with
  | true=>lOp P o a.eval σc fun v σ'=>gsp ops i v fun u=>(h=true->Hp.Sub σc σ')/\MK nt Γ F Q (a.put o.dst u) σ'
  | false=>MK nt Γ F Q (a.put o.dst undef) σc:=by
 unfold O8 at hs
 split at hs<;>first | exact hs.elim | skip
 ·rename_i hok hw
  rw [hr.wanted ops o hok,hw]
  obtain ⟨θ',fr',Λ',σ',h1,h2⟩:=Lh hr.st hs
  have h3:=Ud h1 h2
  rw [QO]
  refine FA (fun u sc' h4=>?_) h3
  obtain ⟨hsub,θ2,fr2,Λ2,σ2,m,hst,hm,hk⟩:=h4
  refine Ya hg hm hk fun m u hm hk=>⟨hsub,?_⟩
  have hr2:MR nt Γ F θ2 fr2 Λ2 σ2 a sc':=⟨hr.size,hr.defs,hst⟩
  have hr3:=hr2.put hm o.dst hd
  obtain ⟨θ4,fr4,Λ4,s4,h5,h6⟩:=Lh hr3.st hk
  exact ⟨θ4,fr4,Λ4,s4,⟨hr3.size,hr3.defs,h5⟩,h6⟩
 ·rename_i hok hw
  rw [hr.wanted ops o hok,hw]
  exact ⟨θ,_,Λ,σ,hr.put (m:=.v undef) rfl o.dst hd,hs⟩
end
end Go.Proofs.YtoelhdjloaknbaaGreat
