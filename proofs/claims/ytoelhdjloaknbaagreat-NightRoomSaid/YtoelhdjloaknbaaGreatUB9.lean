/- What this claim rests on. -/
import Derived.Test.YtoelhdjloaknbaaGreatUB8
namespace Go.Proofs.YtoelhdjloaknbaaGreat
open Go.RowKit
theorem M7:∀ {l:List Nat} {i:Nat},Ec l i=true↔i∈l
 | [],i=>by simp [Ec]
 | j::l,i=>by
  simp only [Ec]
  cases h:Nat.beq j i with
  | true=>simp [Nat.eq_of_beq_eq_true h]
  | false=>
   have:=Nat.ne_of_beq_eq_false h
   simp only [List.mem_cons]
   rw [M7]
   constructor
   ·exact .inr
   ·rintro (rfl | h)
    ·exact absurd rfl this
    ·exact h
theorem Lj:∀ {S:Src} {k a g:Nat},B4 S k=some (a,g)->(k,a,g)∈S
 | [],_,_,_,h=>by cases h
 | (k0,a0,g0)::S,k,a,g,h=>by
  rw [CU] at h
  split at h
  ·rename_i e
   cases h
   rw [e]
   exact List.mem_cons_self ..
  ·exact List.mem_cons_of_mem _ (Lj h)
theorem SY:∀ {S:Src} {Λ:List LObj},Jo S Λ=true->∀ x∈S,NB x.2.2 (AI Λ x.2.1)=true
 | [],_,_,x,hx=>by cases hx
 | (k,a,g)::S,Λ,h,x,hx=>by
  simp only [Jo] at h
  split at h<;>first | (cases h;done) | skip
  rename_i h1 h2
  rcases List.mem_cons.1 hx with rfl | hx
  ·exact h1
  ·exact SY h x hx
theorem Tl:∀ {S:Src} {Λ:List LObj},Jo S Λ=true->∀ {k1 k2 a g1 g2:Nat},B4 S k1=some (a,g1)->B4 S k2=some (a,g2)->k1=k2
 | [],_,_,_,_,_,_,_,h,_=>by cases h
 | (k,a0,g0)::S,Λ,h,k1,k2,a,g1,g2,e1,e2=>by
  simp only [Jo] at h
  split at h<;>first | (cases h;done) | skip
  rename_i h1 h2
  have hno:∀ {k' g'},B4 S k'=some (a0,g')->False:=fun e=>by
   have:=Lj e
   have:a0∈S.map fun s=>s.2.1:=List.mem_map_of_mem (f:=fun s:Nat×Nat×Nat=>s.2.1) this
   rw [← M7,h2] at this
   cases this
  rw [CU] at e1 e2
  split at e1
  ·rename_i ek1
   cases e1
   split at e2
   ·rename_i ek2;rw [← ek1,ek2]
   ·exact (hno e2).elim
  ·split at e2
   ·cases e2;exact (hno e1).elim
   ·exact Tl h e1 e2
theorem Ik:∀ {S:Src} {its:List It} {Λ:List LObj},C7 S its Λ=true->∀ k∈U3 its,NT (AI Λ k)=true
 | _,[],_,_,k,hk=>by cases hk
 | S,.modb i e ps::l,Λ,h,k,hk=>by
  simp only [C7] at h
  split at h<;>first | (cases h;done) | skip
  rename_i h1
  rcases List.mem_cons.1 hk with rfl | hk
  ·exact h1
  ·exact Ik h k hk
 | S,.modl i g e ss::l,Λ,h,k,hk=>by
  simp only [C7] at h
  split at h<;>first | (cases h;done) | skip
  exact Ik h k hk
 | S,.slot t p::l,Λ,h,k,hk=>Ik (its:=l) h k hk
theorem Ic:∀ {S:Src} {its:List It} {Λ:List LObj},C7 S its Λ=true->∀ k∈U4 its,ZW (AI Λ k)=true/\∀ k' a g,B4 S k'=some (a,g)->a≠k
 | _,[],_,_,k,hk=>by cases hk
 | S,.modb i e ps::l,Λ,h,k,hk=>by
  simp only [C7] at h
  split at h<;>first | (cases h;done) | skip
  exact Ic h k hk
 | S,.modl i g e ss::l,Λ,h,k,hk=>by
  simp only [C7] at h
  split at h<;>first | (cases h;done) | skip
  rename_i h1 h2
  rcases List.mem_cons.1 hk with rfl | hk
  ·refine ⟨h1,fun k' a g e ea=>?_⟩
   have:=Lj e
   have:a∈S.map fun s=>s.2.1:=List.mem_map_of_mem (f:=fun s:Nat×Nat×Nat=>s.2.1) this
   rw [ea,← M7,h2] at this
   cases this
  ·exact Ic h k hk
 | S,.slot t p::l,Λ,h,k,hk=>Ic (its:=l) h k hk
def thS (S:Src) (θ:Nat->Loc) (k:Nat):Loc:=match B4 S k with
 | some (a,_)=>θ a
 | none=>θ k
section
variable {Γ Γ':List LObj} {F σc:Hp} {vals:Nat->Value} {tg:List Nat} {pad:Nat}
theorem Bt.done {S:Src} {its:List It} {θ:Nat->Loc} {fr:MFr} {Λ L:List LObj} {σ:Hp} {G:MFr->MFr} (hb:Bt Γ Γ' F vals σc tg pad (U3 its) (U4 its) S θ fr Λ σ G L) (hth:C7 S its Λ=true) (hsr:Jo S Λ=true) (hkept:∀ k,AI Λ k=.lk->RJ tg pad (AI Γ' k)=true/\Ec tg k=false):
  HR pad (thS S θ) (obj Γ L) σ F σc/\∀ m u,BV tg pad S Λ.length θ (obj Γ' Λ) m u->CVc pad (thS S θ) (obj Γ L) m u:=by
 have hnone:∀ k,Ec tg k=false->B4 S k=none:=fun k h=>by
  cases e:B4 S k with
  | none=>rfl
  | some x=>have:=hb.keys k x.1 x.2 e;rw [h] at this;cases this
 have hcase:∀ k,obj Γ L k=.gone∨(B4 S k=none/\Ec tg k=false/\obj Γ L k=obj Γ' Λ k/\(∀ e cs,obj Γ' Λ k=.box e cs->cs.all (XG tg pad)=true)/\∀ k' a g,B4 S k'=some (a,g)->a≠k) ∨
   (∃ a g e ss xs,B4 S k=some (a,g)/\Ec tg k=true/\obj Γ L k=.lst e 0 ss xs/\obj Γ' Λ a=.lst e g ss xs) ∨
   (B4 S k=none/\Ec tg k=false/\(∀ k' a g,B4 S k'=some (a,g)->a≠k)/\∃ e ms cs us,obj Γ L k=.box e ms/\obj Γ' Λ k=.box e cs/\σc (θ k).b=some (.cells (List.toArray us) e (0,0),true)/\Bq (BV tg pad S Λ.length θ (obj Γ' Λ)) ms us):=by
  intro k
  have hcur:∀ {k' a g},B4 S k'=some (a,g)->NB g (AI Λ a)=true:=fun e=>SY hsr _ (Lj e)
  rcases hb.objs k with h | ⟨h1,h2⟩ | ⟨h0,a,g,e,ss,xs,h1,h2,h3,h4⟩ | ⟨h0,hT,hk,e,g,ss,xs,h1,h2⟩ | ⟨h0,hT,hk,e,ms,us,h1,h2,h3⟩
  ·exact .inl (BY h.1 (by simp))
  ·obtain ⟨h3,h4⟩:=hkept k h1
   have ho:obj Γ' Λ k=AI Γ' k:=by unfold obj;rw [h1]
   refine .inr (.inl ⟨hnone k h4,h4,by rw [h2,ho],fun e cs hc=>?_,fun k' a g e ea=>?_⟩)
   ·rw [ho] at hc
    rw [hc] at h3
    exact h3
   ·have:=hcur e
    rw [ea,h1] at this
    cases this
  ·refine .inr (.inr (.inl ⟨a,g,e,ss,xs,h1,h0,BY h3 (by simp),?_⟩))
   rcases h4 with h4 | h4
   ·exact BY h4 (by simp)
   ·have:=hcur h1;rw [h4] at this;cases this
  ·obtain ⟨h3,h4⟩:=Ic hth k h0
   rcases h2 with h2 | h2
   ·refine .inr (.inl ⟨hnone k hT,hT,by rw [BY h1 (by simp),BY h2 (by simp)],fun e' cs hc=>?_,h4⟩)
    rw [BY h2 (by simp)] at hc
    cases hc
   ·rw [h2] at h3;cases h3
  ·obtain ⟨e',cs,h4⟩:=E1 (Ik hth k h0)
   have ho:=BY (Γ:=Γ') h4 (by simp)
   have hreal:=hb.st.hr.real k
   rw [ho] at hreal
   obtain ⟨vs,h5,_⟩:=hreal
   rw [h2] at h5
   have he:e=e':=by injection h5 with h;injection h with h1 _;injection h1
   subst he
   refine .inr (.inr (.inr ⟨hnone k hT,hT,fun k' a g e ea=>?_,e,ms,cs,us,BY h1 (by simp),ho,h2,h3⟩))
   have:=hcur e
   rw [ea,h4] at this
   cases this
 have hth1:∀ {k},B4 S k=none->thS S θ k=θ k:=fun h=>by unfold thS;rw [h]
 have hth2:∀ {k a g},B4 S k=some (a,g)->thS S θ k=θ a:=fun h=>by unfold thS;rw [h]
 have hcv:∀ m u,BV tg pad S Λ.length θ (obj Γ' Λ) m u->CVc pad (thS S θ) (obj Γ L) m u:=by
  intro m u h
  cases m with
  | v x=>exact h
  | bx j o=>
   refine ⟨h.1,fun e cs ho=>?_⟩
   rcases hcase j with h1 | ⟨h1,_,h2,_⟩ | ⟨a,g,e',ss,xs,h1,_,h2,_⟩ | ⟨h1,_,_,e',ms,cs',us,h2,h3,_⟩
   ·rw [h1] at ho;cases ho
   ·rw [hth1 h1]
    exact h.2.2 e cs (by rw [← h2];exact ho)
   ·rw [h2] at ho;cases ho
   ·rw [hth1 h1]
    exact h.2.2 _ _ h3
  | ls t g=>
   refine ⟨h.1,fun e g' ss xs ho=>?_⟩
   rcases hcase t with h1 | ⟨h1,hT,h2,_⟩ | ⟨a,ga,e',ss',xs',h1,hT,h2,h3⟩ | ⟨h1,_,_,e',ms,cs',us,h2,h3,_⟩
   ·rw [h1] at ho;cases ho
   ·rw [hth1 h1]
    exact (h.2.2 hT).2 e g' ss xs (by rw [← h2];exact ho)
   ·rw [h2] at ho
    cases ho
    obtain ⟨h0,a',ga',h4,h5⟩:=h.2.1 hT
    rw [h1] at h4
    cases h4
    rw [hth2 h1]
    exact ⟨by omega,fun _=>(h5.2 _ _ _ _ h3).2 rfl⟩
   ·rw [h2] at ho;cases ho
 have hbl:∀ {k b},blk (thS S θ) k (obj Γ L k)=some b->(B4 S k=none/\blk θ k (obj Γ' Λ k)=some b/\∀ k' a g,B4 S k'=some (a,g)->a≠k)∨∃ a g,B4 S k=some (a,g)/\blk θ a (obj Γ' Λ a)=some b:=by
  intro k b h
  rcases hcase k with h1 | ⟨h1,_,h2,_,h3⟩ | ⟨a,ga,e',ss',xs',h1,hT,h2,h3⟩ | ⟨h1,_,h4,e',ms,cs',us,h2,h3,_⟩
  ·rw [h1] at h;cases h
  ·refine .inl ⟨h1,?_,h3⟩
   rw [← h2]
   unfold blk at h ⊢
   rw [hth1 h1] at h
   exact h
  ·refine .inr ⟨a,ga,h1,?_⟩
   rw [h2] at h
   rw [h3]
   simp only [blk,hth2 h1] at h ⊢
   exact h
  ·refine .inl ⟨h1,?_,h4⟩
   rw [h2] at h
   rw [h3]
   simp only [blk,hth1 h1] at h ⊢
   exact h
 refine ⟨⟨hb.st.hr.sub,hb.st.hr.fsub,hb.st.hr.dis,fun k=>?_,fun k b h=>?_,fun k k' b h h'=>?_,fun k hk=>?_⟩,hcv⟩
 ·rcases hcase k with h1 | ⟨h1,_,h2,h3,_⟩ | ⟨a,ga,e',ss',xs',h1,hT,h2,h3⟩ | ⟨h1,_,_,e',ms,cs',us,h2,h3,h4,h5⟩
  ·rw [h1];trivial
  ·rw [h2]
   have hr:=hb.st.hr.real k
   cases ho:obj Γ' Λ k with
   | box e cs=>
    rw [ho] at hr
    obtain ⟨us,h4,h5⟩:=hr
    have hall:=h3 e cs ho
    refine ⟨us,by rw [hth1 h1];exact h4,?_⟩
    have:∀ {cs:List MC} {us:List Value},cs.all (XG tg pad)=true->Bq (CVc Λ.length θ (obj Γ' Λ)) cs us->Bq (CVc pad (thS S θ) (obj Γ L)) cs us:=by
     intro cs us hall ha
     induction ha with
     | nil=>exact .nil
     | cons x _ ih=>
      simp only [List.all_cons,Bool.and_eq_true] at hall
      refine .cons (hcv _ _ ?_) (ih hall.2)
      rename_i m u cs us _
      cases m with
      | v x=>assumption
      | bx j o=>exact ⟨by have:=hall.1;simp only [XG] at this;have:=Nat.le_of_ble_eq_true this;omega,x⟩
      | ls j g=>
       have h6:=hall.1
       simp only [XG,Bool.and_eq_true,Bool.not_eq_true'] at h6
       exact ⟨by have:=Nat.le_of_ble_eq_true h6.1;omega,(fun e=>by rw [h6.2] at e;cases e),fun _=>x⟩
    exact this hall h5
   | lst e g ss xs=>
    rw [ho] at hr
    unfold G1
    rw [hth1 h1]
    exact hr
   | gone=>trivial
   | lk=>trivial
  ·rw [h2]
   have hr:=hb.st.hr.real a
   rw [h3] at hr
   unfold G1
   rw [hth2 h1]
   exact hr
  ·rw [h2]
   refine ⟨us,by rw [hth1 h1];exact h4,?_⟩
   have:∀ {cs:List MC} {us:List Value},Bq (BV tg pad S Λ.length θ (obj Γ' Λ)) cs us->Bq (CVc pad (thS S θ) (obj Γ L)) cs us:=fun ha=>ha.imp fun _ _ x=>hcv _ _ x
   exact this h5
 ·rcases hbl h with ⟨_,h2,_⟩ | ⟨a,g,_,h2⟩
  ·exact hb.st.hr.sep _ _ h2
  ·exact hb.st.hr.sep _ _ h2
 ·rcases hbl h with ⟨h1,h2,h3⟩ | ⟨a,g,h1,h2⟩
  ·rcases hbl h' with ⟨h1',h2',h3'⟩ | ⟨a',g',h1',h2'⟩
   ·exact hb.st.hr.inj _ _ _ h2 h2'
   ·exact absurd (hb.st.hr.inj _ _ _ h2' h2) (h3 _ _ _ h1')
  ·rcases hbl h' with ⟨h1',h2',h3'⟩ | ⟨a',g',h1',h2'⟩
   ·exact absurd (hb.st.hr.inj _ _ _ h2 h2') (h3' _ _ _ h1)
   ·have:=hb.st.hr.inj _ _ _ h2 h2'
    subst this
    exact Tl hsr h1 h1'
 ·exact BY (EB (by rw [hb.len];exact hk)) (by simp)
theorem Bt.st_done {S:Src} {its:List It} {θ:Nat->Loc} {fr r:MFr} {Λ L:List LObj} {σ:Hp} {G:MFr->MFr} (hb:Bt Γ Γ' F vals σc tg pad (U3 its) (U4 its) S θ fr Λ σ G L) (hth:C7 S its Λ=true) (hsr:Jo S Λ=true) (hkept:∀ k,AI Λ k=.lk->RJ tg pad (AI Γ' k)=true/\Ec tg k=false)
  (hr:∀ t,B8 r t=.v (vals t)):St Γ F vals (thS S θ) (G r) L σ σc:=by
 obtain ⟨h1,h2⟩:=hb.done hth hsr hkept
 refine ⟨by rw [hb.len];exact h1,fun t=>?_⟩
 rw [hb.len]
 rcases hb.slots t with h3 | ⟨m,h3,h4⟩
 ·rw [h3,hr];rfl
 ·rw [h3];exact CV.toMV (h2 _ _ h4)
end
inductive cut {α:Type} (rest:α) (x:α->Prop):Prop where
 | mk (h:x rest):cut rest x
theorem cut.out {α:Type} {rest:α} {x:α->Prop}:cut rest x->x rest:=fun ⟨h⟩=>h
theorem Ah {α:Type} {rest:α} {x:α->Prop} (h:∀ J,J=rest->x J):cut rest x:=⟨h rest rfl⟩
inductive MAn where
 | leaf
 | txt (ns:List OA)
 | plan (mm:List Nat) (p:MPlan)
 | seq (x y:MAn)
 | cut (sp:MSp) (x y:MAn)
 | cond (x y:MAn)
 | block (x:MAn)
 | loop (sp:MSp) (x:MAn)
 | rng (gs:List Gh) (keep:List (Nat×Bool)) (ts:List TypeId) (x y:MAn)
abbrev MQ:=Exit->MFr->List LObj->Hp->Prop
def Ry (next:MFr->List LObj->Hp->Prop) (Q:MQ):MQ
 | .normal,fr,Λ,σ=>next fr Λ σ
 | e,fr,Λ,σ=>Q e fr Λ σ
def TE (id:Nat) (Q:MQ):MQ
 | .exit id',fr,Λ,σ=>match Nat.beq id' id with
  | true=>Q .normal fr Λ σ
  | false=>Q (.exit id') fr Λ σ
 | e,fr,Λ,σ=>Q e fr Λ σ
def VD (kept:List Bool) (Λ0:List LObj) (Q:MQ):MQ:=fun e fr Λ σ=>match Ju kept Λ0 Λ with
 | some Λ'=>Q e fr Λ' σ
 | none=>False
def AaP (l:Nat) (Rec:RecT) (R:Value->Hp->Prop):MQ
 | .normal,_,_,σ=>σ l=some (Rec .busy none,true)/\R (.bool true) (σ.ins l (Rec .ready none))
 | .ret,_,_,σ=>σ l=some (Rec .busy none,true)/\R (.bool false) (σ.ins l (Rec .done (some .ret)))
 | .exit id,_,_,σ=>σ l=some (Rec .busy none,true)/\R (.bool false) (σ.ins l (Rec .done (some (.exit id))))
 | _,_,_,_=>False
def Abl (Q:MQ) (fr:MFr) (Λ:List LObj) (σ:Hp):Option Code->Prop
 | none=>Q .normal fr Λ σ
 | some .ret=>Q .ret fr Λ σ
 | some (.exit id)=>Q (.exit id) fr Λ σ
 | _=>False
def XH:List Tmp->List Value->MFr->MFr
 | t::ts,v::vs,fr=>XH ts vs (.cons t (.v v) fr)
 | _,_,fr=>fr
def UZ (P:Program) (v:Value) (args:Array Value) (σ:Hp) (R:Value->Hp->Prop):Prop:=
 ∀ σc,Hp.Sub σ σc->Ta P v args σc fun v sc'=>∃ σ',R v σ'/\Frm σ σc σ' sc'
def YF (P:Program) (gv:Value) (σ:Hp) (BODY:Nat->RecT->Array Value->Hp->(Value->Hp->Prop)->Prop) (AFTER:Option Code->Hp->Prop):Prop:=
 ∀ (l:Nat) (Rec:RecT),σ l=none->(∀ args s1 R,s1 l=some (Rec .ready none,true)->BODY l Rec args s1 R->B7 P (.func (.yield l) #[] #[]) args s1 R) ->
  UZ P gv #[.func (.yield l) #[] #[]] (σ.ins l (Rec .ready none)) fun _ σ'=>∃ st pend,σ' l=some (Rec st pend,true)/\(st == .busy)=false/\AFTER pend (σ'.ins l (Rec .exhausted pend))
def WC (sp:MSp) (j:TyI sp.its) (fr:MFr) (Λ:List LObj) (σ:Hp):Prop:=match Gw sp.kept Λ with
 | true=>RU sp.kept sp.pad sp.its sp.its j [] fr Λ σ
 | false=>False
def K9 (P:Program):MAn->Code->List LObj->MQ->MFr->List LObj->Hp->Prop
 | .leaf,.skip,_,Q,fr,Λ,σ=>Q .normal fr Λ σ
 | .leaf,.exit id,_,Q,fr,Λ,σ=>Q (.exit id) fr Λ σ
 | .leaf,.ret,_,Q,fr,Λ,σ=>Q .ret fr Λ σ
 | .txt ns,.region _ ops false,Γ,Q,fr,Λ,σ=>AaY P Γ ops.toList ops.toList ns (Q .normal) fr Λ σ
 | .plan _ p,.region _ ops true,Γ,Q,fr,Λ,σ=>JC P Γ ops.toList p (Q .normal) fr Λ σ
 | .seq x y,.seq cx cy,Γ,Q,fr,Λ,σ=>K9 P x cx Γ (Ry (K9 P y cy Γ Q) Q) fr Λ σ
 | .cut sp x y,.seq cx cy,Γ,Q,fr,Λ,σ=>match Nat.beq sp.kept.length Λ.length,K3 (tgI sp.its) sp.pad sp.kept Λ Γ 0 with
  | true,true=>cut (Xw sp.its (fun fr=>fr) (ET sp.kept Λ sp.pad) fun G L σ=>∀ g,RK sp.keep fr (.base g) fun r=>K9 P y cy Γ Q (G r) L σ) fun J=>
   K9 P x cx (Ep sp.kept Λ Γ) (Ry (fun fr' Λ' σ'=>WC sp J fr' Λ' σ') (VD sp.kept Λ Q)) fr (Em sp.kept Λ) σ
  | _,_=>False
 | .cond x y,.cond c cx cy,Γ,Q,fr,Λ,σ=>match mev fr c with
  | .v (.bool b)=>bc b (K9 P x cx Γ Q fr Λ σ) (K9 P y cy Γ Q fr Λ σ)
  | _=>False
 | .block x,.block id c,Γ,Q,fr,Λ,σ=>K9 P x c Γ (TE id Q) fr Λ σ
 | .loop sp x,.loop c,Γ,Q,fr,Λ,σ=>match Nat.beq sp.kept.length Λ.length,K3 (tgI sp.its) sp.pad sp.kept Λ Γ 0 with
  | true,true=>∃ I:Nat->TyI sp.its,(∃ n,WC sp (I n) fr (Em sp.kept Λ) σ) /\
   ∀ n,Ym sp.its (fun fr=>fr) (ET sp.kept Λ sp.pad) (I n) fun G L σ=>∀ g,RK sp.keep fr (.base g) fun r=>
    K9 P x c (Ep sp.kept Λ Γ) (Ry (fun fr' Λ' σ'=>∃ s'',Hp.Sub s'' σ'/\∃ m,m<n/\WC sp (I m) fr' Λ' s'') (VD sp.kept Λ Q)) (G r) (Em sp.kept L) σ
  | _,_=>False
 | .rng gs keep ts x y,.rangeFunc g ps asg body,_,Q,fr,Λ,σ=>ghs gs fr Λ σ fun fr Λ σ=>match mev fr g with
  | .v gv=>YF P gv σ (fun l Rec args s1 R=>tyT P ts fun vs=>args=vs.toArray/\match Nat.beq vs.length ps.size with
    | true=>∀ g,RK keep fr (.base g) fun r=>K9 P x asg [] (Ry (fun fr2 Λ2 σ2=>σ2 l=some (Rec .ready none,true)/\K9 P y body [] (AaP l Rec R) fr2 Λ2 (σ2.ins l (Rec .busy none))) fun _ _ _ _=>False) (XH ps.toList vs r) [] s1
    | false=>False) fun p σ'=>Abl Q fr Λ σ' p
  | _=>False
 | _,_,_,_,_,_,_=>False
def Si (keep:List (Nat×Bool)) (ws:List Nat):Bool:=keep.all fun k=>!NY ws k.1
def D2 (n:Nat):MAn->Code->Bool
 | .leaf,.skip=>true
 | .leaf,.exit _=>true
 | .leaf,.ret=>true
 | .txt ns,.region _ ops false=>Qs n ops&&U8 ops 0 ops.toList ns
 | .plan mm p,.region _ ops true=>Qs n ops&&Region.noSelect ops&&Vy ops&&Bj ops mm p.plan true ops.size (List.replicate ops.size false)
 | .seq x y,.seq cx cy=>D2 n x cx&&D2 n y cy
 | .cut sp x y,.seq cx cy=>Si sp.keep (wrs cx)&&Nat.ble sp.kept.length sp.pad&&D2 n x cx&&D2 n y cy
 | .cond x y,.cond _ cx cy=>D2 n x cx&&D2 n y cy
 | .block x,.block _ c=>D2 n x c
 | .loop sp x,.loop c=>Si sp.keep (wrs c)&&Nat.ble sp.kept.length sp.pad&&D2 n x c
 | .rng _ _ _ x y,.rangeFunc _ ps asg body=>L0 asg&&L0 body&&ps.toList.all (fun t=>Nat.blt t n)&&D2 n x asg&&D2 n y body
 | _,_=>false
end Go.Proofs.YtoelhdjloaknbaaGreat
