/- What this claim rests on. -/
import Derived.Test.YtoelhdjloaknbaaGreatUB7
namespace Go.Proofs.YtoelhdjloaknbaaGreat
open Go.RowKit
def U3:List It->List Nat
 | []=>[]
 | .modb i _ _::l=>i::U3 l
 | _::l=>U3 l
def U4:List It->List Nat
 | []=>[]
 | .modl i _ _ _::l=>i::U4 l
 | _::l=>U4 l
def BV (tg:List Nat) (pad:Nat) (S:Src) (n:Nat) (θ:Nat->Loc) (O:Nat->LObj):MC->Value->Prop
 | .v x,u=>u=x
 | .bx j o,u=>j<pad/\CVc n θ O (.bx j o) u
 | .ls t g,u=>t<pad/\(Ec tg t=true->g=0/\∃ a ga,B4 S t=some (a,ga)/\CVc n θ O (.ls a ga) u)/\(Ec tg t=false->CVc n θ O (.ls t g) u)
def Bo (Γ Γ':List LObj) (σc:Hp) (tg:List Nat) (pad:Nat) (bs ls:List Nat) (S:Src) (θ:Nat->Loc) (Λ L:List LObj) (k:Nat):Prop:=
 (AI L k=.gone/\(AI Λ k=.lk->AI Γ' k=.gone))∨(AI Λ k=.lk/\obj Γ L k=AI Γ' k) ∨
 (Ec tg k=true/\∃ a g e ss xs,B4 S k=some (a,g)/\a<Λ.length/\AI L k=.lst e 0 ss xs/\(AI Λ a=.lst e g ss xs∨AI Λ a=.gone)) ∨
 (k∈ls/\Ec tg k=false/\k<Λ.length/\∃ e g ss xs,AI L k=.lst e g ss xs/\(AI Λ k=.lst e g ss xs∨AI Λ k=.gone)) ∨
 (k∈bs/\Ec tg k=false/\k<Λ.length/\∃ e ms us,AI L k=.box e ms/\σc (θ k).b=some (.cells (List.toArray us) e (0,0),true)/\Bq (BV tg pad S Λ.length θ (obj Γ' Λ)) ms us)
structure Bt (Γ Γ':List LObj) (F:Hp) (vals:Nat->Value) (σc:Hp) (tg:List Nat) (pad:Nat) (bs ls:List Nat) (S:Src) (θ:Nat->Loc) (fr:MFr) (Λ:List LObj) (σ:Hp) (G:MFr->MFr) (L:List LObj):Prop where
 st:St Γ' F vals θ fr Λ σ σc
 len:L.length=pad
 keys:∀ k a g,B4 S k=some (a,g)->Ec tg k=true
 slots:∀ t,(∀ base,B8 (G base) t=B8 base t)∨∃ m,(∀ base,B8 (G base) t=toMV m)/\BV tg pad S Λ.length θ (obj Γ' Λ) m (vals t)
 objs:∀ k,Bo Γ Γ' σc tg pad bs ls S θ Λ L k
section
variable {Γ Γ':List LObj} {F σc:Hp} {vals:Nat->Value} {tg:List Nat} {pad:Nat} {bs ls:List Nat}
def SLe (S S2:Src):Prop:=∀ k x,B4 S k=some x->B4 S2 k=some x
theorem SLe.refl (S:Src):SLe S S:=fun _ _ h=>h
theorem SLe.trans {A B C:Src} (h:SLe A B) (k:SLe B C):SLe A C:=fun _ _ e=>k _ _ (h _ _ e)
theorem CU (k a g:Nat) (S:Src) (t:Nat):B4 ((k,a,g)::S) t=if k=t then some (a,g) else B4 S t:=by
 show (match Nat.beq k t with | true=>_ | false=>_)=_
 split
 ·rename_i e;rw [if_pos (Nat.eq_of_beq_eq_true e)]
 ·rename_i e;rw [if_neg (Nat.ne_of_beq_eq_false e)]
theorem SLe.cons {S:Src} {k a g:Nat} (h:B4 S k=none):SLe S ((k,a,g)::S):=fun t x e=>by
 rw [CU,if_neg (fun ek=>by rw [ek,e] at h;cases h)]
 exact e
theorem BV.move {S S2:Src} {n n2:Nat} {θ θ2:Nat->Loc} {O O2:Nat->LObj} {m:MC} {u:Value} (hs:SLe S S2) (he:Ev n θ O θ2 O2) (hn:n<=n2) (h:BV tg pad S n θ O m u):BV tg pad S2 n2 θ2 O2 m u:=by
 cases m with
 | v x=>exact h
 | bx j o=>exact ⟨h.1,h.2.ev he hn⟩
 | ls t g=>
  refine ⟨h.1,fun e=>?_,fun e=>(h.2.2 e).ev he hn⟩
  obtain ⟨h0,a,ga,h1,h2⟩:=h.2.1 e
  exact ⟨h0,a,ga,hs _ _ h1,h2.ev he hn⟩
theorem Bo.move {S S2:Src} {θ θ2:Nat->Loc} {Λ Λ2 L:List LObj} {k:Nat} (hS:SLe S S2) (hm:Mv Γ' θ Λ θ2 Λ2) (h:Bo Γ Γ' σc tg pad bs ls S θ Λ L k):Bo Γ Γ' σc tg pad bs ls S2 θ2 Λ2 L k:=by
 rcases h with h | ⟨h1,h2⟩ | ⟨h0,a,g,e,ss,xs,h1,h2,h3,h4⟩ | ⟨h0,hT,hk,e,g,ss,xs,h1,h2⟩ | ⟨h0,hT,hk,e,ms,us,h1,h2,h3⟩
 ·exact .inl ⟨h.1,fun e=>h.2 (hm.kl k e)⟩
 ·exact .inr (.inl ⟨hm.lk k h1,h2⟩)
 ·refine .inr (.inr (.inl ⟨h0,a,g,e,ss,xs,hS _ _ h1,Nat.lt_of_lt_of_le h2 hm.le,h3,?_⟩))
  rcases h4 with h4 | h4
  ·exact hm.ls a e g ss xs h4
  ·exact .inr (hm.gn a h2 h4)
 ·refine .inr (.inr (.inr (.inl ⟨h0,hT,Nat.lt_of_lt_of_le hk hm.le,e,g,ss,xs,h1,?_⟩)))
  rcases h2 with h2 | h2
  ·exact hm.ls k e g ss xs h2
  ·exact .inr (hm.gn k hk h2)
 ·exact .inr (.inr (.inr (.inr ⟨h0,hT,Nat.lt_of_lt_of_le hk hm.le,e,ms,us,h1,by rw [hm.th k hk];exact h2,h3.imp fun _ _ x=>x.move hS hm.ev hm.le⟩)))
theorem Bt.move {S S2:Src} {θ θ2:Nat->Loc} {fr fr2:MFr} {Λ Λ2 L:List LObj} {σ σ2:Hp} {G:MFr->MFr} (h:Bt Γ Γ' F vals σc tg pad bs ls S θ fr Λ σ G L) (hS:SLe S S2) (hk:∀ k a g,B4 S2 k=some (a,g)->Ec tg k=true) (hm:Mv Γ' θ Λ θ2 Λ2) (hs:St Γ' F vals θ2 fr2 Λ2 σ2 σc):Bt Γ Γ' F vals σc tg pad bs ls S2 θ2 fr2 Λ2 σ2 G L:=by
 refine ⟨hs,h.len,hk,fun t=>?_,fun k=>(h.objs k).move hS hm⟩
 rcases h.slots t with h1 | ⟨m,h1,h2⟩
 ·exact .inl h1
 ·exact .inr ⟨m,h1,h2.move hS hm.ev hm.le⟩
theorem Bt.say {S:Src} {θ:Nat->Loc} {fr:MFr} {Λ L:List LObj} {σ:Hp} {G:MFr->MFr} (h:Bt Γ Γ' F vals σc tg pad bs ls S θ fr Λ σ G L) {i:Nat} {o:LObj} (hi:i<pad) (ho:Bo Γ Γ' σc tg pad bs ls S θ Λ (BJ L i o) i):Bt Γ Γ' F vals σc tg pad bs ls S θ fr Λ σ G (BJ L i o):=by
 refine ⟨h.st,by rw [Bd];exact h.len,h.keys,h.slots,fun k=>?_⟩
 by_cases ek:k=i
 ·subst ek;exact ho
 ·have h6:=h.objs k
  have h7:AI (BJ L i o) k=AI L k:=by rw [D4 _ _ (by rw [h.len];exact hi),if_neg ek]
  unfold Bo at h6 ⊢
  unfold obj at h6 ⊢
  rw [h7]
  exact h6
theorem Gb {Λ:List LObj} {k:Nat} (x:LObj) (h:k<Λ.length):AI (Λ++[x]) k=AI Λ k:=by rw [D1,if_pos h]
theorem MY (Λ:List LObj) (x:LObj):AI (Λ++[x]) Λ.length=x:=by rw [D1,if_neg (Nat.lt_irrefl _),Nat.sub_self];rfl
theorem Sq {Λ:List LObj} {k:Nat} (x:LObj) (h:Λ.length<k):AI (Λ++[x]) k=.gone:=EB (by simp;omega)
theorem St.adoptMv {fr:MFr} {θ:Nat->Loc} {Λ:List LObj} {σ:Hp} (hs:St Γ' F vals θ fr Λ σ σc) {e:TypeId} {ss:List Sh} {A:aA} {n c:Nat} {xs:List (TyR ss)} {σ':Hp} (ho:Ak e ss σ' A n c xs σ):
  ∃ θ',St Γ' F vals θ' fr (Λ++[.lst e 0 ss xs]) σ' σc/\CVc (Λ++[LObj.lst e 0 ss xs]).length θ' (obj Γ' (Λ++[.lst e 0 ss xs])) (.ls Λ.length 0) (.slice A n c)/\Mv Γ' θ Λ θ' (Λ++[.lst e 0 ss xs]):=by
 have el:(Λ++[LObj.lst e 0 ss xs]).length=Λ.length+1:=by simp
 have hmv:∀ l,Ev Λ.length θ (obj Γ' Λ) (upd θ Λ.length l) (upd (obj Γ' Λ) Λ.length (.lst e 0 ss xs))->Mv Γ' θ Λ (upd θ Λ.length l) (Λ++[.lst e 0 ss xs]):=fun l he=>
  ⟨by rw [BD (by simp)];exact he,by omega,fun k hk=>DK _ _ (by omega),fun k e g ss xs hk=>.inl (by rw [Gb _ (Dz (by rw [hk];simp))];exact hk),fun k hl hk=>by rw [Gb _ hl];exact hk,fun k hk=>by rw [Gb _ (Dz (by rw [hk];simp))];exact hk,fun k hk=>by
   rcases Nat.lt_or_ge k Λ.length with h | h
   ·rw [Gb _ h] at hk;exact hk
   ·rcases Nat.lt_or_ge Λ.length k with h' | h'
    ·rw [Sq _ h'] at hk;cases hk
    ·have:k=Λ.length:=by omega
     rw [this,MY] at hk;cases hk⟩
 rcases ho with ⟨rfl,rfl,rfl,rfl,rfl⟩ | ⟨b,off,cells,rfl,rfl,hn,hb,rfl,hsz,hrow⟩
 ·obtain ⟨h1,h2⟩:=hs.hr.push_nil e ss
  refine ⟨_,hs.next (by rw [el,BD (by simp)];exact h1) (by rw [BD (by simp)];exact h2) (by omega),⟨by simp,fun e' g' ss' xs' h=>?_⟩,hmv _ h2⟩
  rw [BD (by simp),Au] at h
  cases h
  exact ⟨Nat.le_refl _,fun _=>by rw [Au];rfl⟩
 ·obtain ⟨h1,h2⟩:=hs.hr.take hb ⟨false,b,off,c⟩ (.lst e 0 ss xs) (fun b' hb'=>by
   simp only [blk,Au,Option.some.injEq] at hb';exact hb'.symm) (fun hx _=>⟨by rw [Au];exact hn,by rw [Au];exact ⟨cells,hx,hsz,hrow⟩⟩)
  refine ⟨_,hs.next (by rw [el,BD (by simp)];exact h1) (by rw [BD (by simp)];exact h2) (by omega),⟨by simp,fun e' g' ss' xs' h=>?_⟩,hmv _ h2⟩
  rw [BD (by simp),Au] at h
  cases h
  exact ⟨Nat.le_refl _,fun _=>by rw [Au];rfl⟩
theorem TB {s t:List Sh} {xs:List (TyR s)} {ys:List (TyR t)} (h:RD s t xs=some ys):∃ e:s=t,e▸xs=ys:=by
 unfold RD at h
 split at h
 ·rename_i hb
  exact ⟨MX hb,by cases h;rfl⟩
 ·cases h
def Fol {T:Type} (p:PSh) (L:List LObj) (j:TyP p T) (m:MC) (L2:List LObj) (j2:T):Prop:=
 (∀ K:MC->List LObj->T,j=AaK p L K->j2=K m L2)/\∀ K:MC->List LObj->T->Prop,Aak p L j K->K m L2 j2
theorem Rn {T:Type} {s:Sh} {x:Value} {j:TyP (.sc s) T} {L:List LObj} {Q:T->Prop} (h:TZ s x j Q):∃ j2,Q j2/\Fol (.sc s) L j (.v x) L j2:=by
 cases s<;>simp only [TZ] at h
 case any=>exact ⟨_,h,fun K e=>by rw [e];rfl,fun K a=>a x⟩
 case int ik=>
  split at h<;>first | exact h.elim | skip
  split at h<;>first | exact h.elim | skip
  rename_i ek
  obtain rfl:=H7 ek
  exact ⟨_,h,fun K e=>by rw [e];rfl,fun K a=>a _⟩
 case slc=>
  split at h<;>first | exact h.elim | skip
  exact ⟨_,h,fun K e=>by rw [e];rfl,fun K a=>a _ _ _⟩
 all_goals
  split at h<;>first | exact h.elim | skip
  exact ⟨_,h,fun K e=>by rw [e];rfl,fun K a=>a _⟩
theorem Qm {T:Type} {p:PSh} {m:MV} {j:TyP p T} {S:Src} {θ:Nat->Loc} {fr:MFr} {Λ L:List LObj} {σ:Hp} {G:MFr->MFr} {u:Value} {k:T->Src->MFr->List LObj->Hp->Prop} (htg:∀ t∈tgP p,Ec tg t=true) (h:UX tg pad p m j S fr Λ σ k) (hb:Bt Γ Γ' F vals σc tg pad bs ls S θ fr Λ σ G L) (hm:CV Λ.length θ (obj Γ' Λ) m u):
  ∃ S2 θ2 fr2 Λ2 σ2 L2 mc j2,Bt Γ Γ' F vals σc tg pad bs ls S2 θ2 fr2 Λ2 σ2 G L2/\SLe S S2/\Mv Γ' θ Λ θ2 Λ2/\BV tg pad S2 Λ2.length θ2 (obj Γ' Λ2) mc u/\k j2 S2 fr2 Λ2 σ2/\Fol p L j mc L2 j2:=by
 have hexp:∀ {ex:MV},CV Λ.length θ (obj Γ' Λ) ex u->∀ {s:Sh} {j:TyP (.sc s) T},(Fa 12 [ex] fr Λ σ fun vs fr Λ σ=>match vs with
   | [x]=>TZ s x j fun t=>k t S fr Λ σ
   | _=>False)->∃ S2 θ2 fr2 Λ2 σ2 L2 mc j2,Bt Γ Γ' F vals σc tg pad bs ls S2 θ2 fr2 Λ2 σ2 G L2/\SLe S S2/\Mv Γ' θ Λ θ2 Λ2/\BV tg pad S2 Λ2.length θ2 (obj Γ' Λ2) mc u/\k j2 S2 fr2 Λ2 σ2/\Fol (.sc s) L j mc L2 j2:=by
  intro ex hex s j h
  obtain ⟨fr',Λ',σ',h1,h2,h3,h4,hlen⟩:=Ge _ _ _ _ _ _ _ h hb.st.hr hb.st.fr (.cons hex .nil)
  obtain ⟨j2,h5,h6⟩:=Rn (L:=L) h3
  exact ⟨S,θ,fr',Λ',σ',L,.v u,j2,hb.move (SLe.refl _) hb.keys h4 ⟨h1,h2⟩,SLe.refl _,h4,rfl,h5,h6⟩
 cases p with
 | sc s=>
  simp only [UX] at h
  split at h
  ·rename_i x
   obtain ⟨j2,h5,h6⟩:=Rn (L:=L) h
   exact ⟨S,θ,fr,Λ,σ,L,.v x,j2,hb,SLe.refl _,Mv.refl _ _ _,hm,h5,h6⟩
  ·exact hexp hm h
 | lst t e ss=>
  have ht:=htg t (by simp [tgP])
  simp only [UX] at h
  split at h<;>first | exact h.elim | skip
  rename_i hlt hnone
  have hlt:t<pad:=by
   have:=Nat.le_of_ble_eq_true hlt
   omega
  have hkeys:∀ a g,∀ k' a' g',B4 ((t,a,g)::S) k'=some (a',g')->Ec tg k'=true:=fun a g k' a' g' e=>by
   rw [CU] at e
   split at e
   ·rename_i ek;rw [← ek];exact ht
   ·exact hb.keys _ _ _ e
  split at h
  ·rename_i a g
   split at h<;>first | exact h.elim | skip
   rename_i e' g' s' xs hk
   split at h<;>first | exact h.elim | skip
   rename_i ys hg he hc
   obtain rfl:=Nat.eq_of_beq_eq_true hg
   obtain rfl:=Nat.eq_of_beq_eq_true he
   obtain ⟨hss,hys⟩:=TB hc
   subst hss
   have hys:xs=ys:=hys
   subst hys
   have hb2:=hb.move (SLe.cons (a:=a) (g:=g) hnone) (hkeys a g) (Mv.refl _ _ _) hb.st
   refine ⟨_,θ,fr,Λ,σ,_,.ls t 0,_,hb2.say (i:=t) (o:=.lst e 0 s' xs) hlt (.inr (.inr (.inl ⟨ht,a,g,e,s',xs,by rw [CU,if_pos rfl],Dz (by rw [hk];simp),by rw [D4 _ _ (by rw [hb.len];exact hlt),if_pos rfl],.inl hk⟩))),SLe.cons hnone,Mv.refl _ _ _,
    ⟨hlt,fun _=>⟨rfl,a,g,by rw [CU,if_pos rfl],hm⟩,fun e=>by rw [ht] at e;cases e⟩,h,fun K ek=>by rw [ek];rfl,fun K ha=>ha xs⟩
  ·rename_i A n c
   obtain ⟨xs,σ',ho,h⟩:=h
   have hm:u=.slice A n c:=hm
   subst hm
   obtain ⟨θ2,h1,h2,h3⟩:=hb.st.adoptMv ho
   have hb2:=hb.move (SLe.cons (a:=Λ.length) (g:=0) hnone) (hkeys Λ.length 0) h3 h1
   refine ⟨_,θ2,fr,_,σ',_,.ls t 0,_,hb2.say (i:=t) (o:=.lst e 0 ss xs) hlt (.inr (.inr (.inl ⟨ht,Λ.length,0,e,ss,xs,by rw [CU,if_pos rfl],by simp,by rw [D4 _ _ (by rw [hb.len];exact hlt),if_pos rfl],.inl (MY _ _)⟩))),SLe.cons hnone,h3,
    ⟨hlt,fun _=>⟨rfl,Λ.length,0,by rw [CU,if_pos rfl],h2⟩,fun e=>by rw [ht] at e;cases e⟩,h,fun K ek=>by rw [ek];rfl,fun K ha=>ha xs⟩
  ·exact h.elim
 | hl a g=>
  simp only [UX] at h
  split at h<;>first | exact h.elim | skip
  split at h<;>first | exact h.elim | skip
  rename_i h1 h2 h3 h4
  obtain rfl:=Nat.eq_of_beq_eq_true h1
  obtain rfl:=Nat.eq_of_beq_eq_true h2
  exact ⟨S,θ,fr,Λ,σ,L,.ls a g,j,hb,SLe.refl _,Mv.refl _ _ _,⟨by have:=Nat.le_of_ble_eq_true h4;omega,(fun e=>by rw [h3] at e;cases e),fun _=>hm⟩,h,fun K ek=>ek,fun K ha=>ha⟩
 | hb a o=>
  simp only [UX] at h
  split at h<;>first | exact h.elim | skip
  split at h<;>first | exact h.elim | skip
  rename_i h1 h2 h4
  obtain rfl:=Nat.eq_of_beq_eq_true h1
  obtain rfl:=Nat.eq_of_beq_eq_true h2
  exact ⟨S,θ,fr,Λ,σ,L,.bx a o,j,hb,SLe.refl _,Mv.refl _ _ _,⟨by have:=Nat.le_of_ble_eq_true h4;omega,hm⟩,h,fun K ek=>ek,fun K ha=>ha⟩
def AbE {T:Type} (ps:List PSh) (ms0:List MC) (L:List LObj) (j:Uj ps T) (ms:List MC) (L2:List LObj) (j2:T):Prop:=
 (∀ K:List MC->List LObj->T,j=WZ ps ms0 L K->j2=K ms L2)/\∀ K:List MC->List LObj->T->Prop,Xh ps ms0 L j K->K ms L2 j2
theorem TU {T:Type} {i:Nat} {us:List Value}:∀ (ps:List PSh) (n:Nat) (j:Uj ps T) (ms0:List MC) (S:Src) (θ:Nat->Loc) (fr:MFr) (Λ L:List LObj) (σ:Hp) (G:MFr->MFr) (k:T->Src->MFr->List LObj->Hp->Prop) (e:TypeId),(∀ t∈AaF ps,Ec tg t=true)->Vo tg pad i ps n j S fr Λ σ k ->
  Bt Γ Γ' F vals σc tg pad bs ls S θ fr Λ σ G L->i<Λ.length->σc (θ i).b=some (.cells us.toArray e (0,0),true)->Bq (BV tg pad S Λ.length θ (obj Γ' Λ)) ms0 (us.take n)->n+ps.length=us.length ->
  ∃ S2 θ2 fr2 Λ2 σ2 L2 ms j2,Bt Γ Γ' F vals σc tg pad bs ls S2 θ2 fr2 Λ2 σ2 G L2/\SLe S S2/\Mv Γ' θ Λ θ2 Λ2/\Bq (BV tg pad S2 Λ2.length θ2 (obj Γ' Λ2)) ms us/\k j2 S2 fr2 Λ2 σ2/\AbE ps ms0 L j ms L2 j2:=by
 intro ps
 induction ps with
 | nil=>
  intro n j ms0 S θ fr Λ L σ G k e _ h hb hi hc ha hn
  have:us.take n=us:=List.take_of_length_le (by simp at hn;omega)
  rw [this] at ha
  exact ⟨S,θ,fr,Λ,σ,L,ms0,j,hb,SLe.refl _,Mv.refl _ _ _,ha,h,fun K ek=>ek,fun K ha=>ha⟩
 | cons p ps ih=>
  intro n j ms0 S θ fr Λ L σ G k e htg h hb hi hc ha hn
  simp only [List.length_cons] at hn
  simp only [Vo] at h
  split at h<;>first | exact h.elim | skip
  rename_i e' cs hk
  split at h<;>first | exact h.elim | skip
  rename_i m ms' hd
  have hob:=BY (Γ:=Γ') hk (by simp)
  have hreal:=hb.st.hr.real i
  rw [hob] at hreal
  obtain ⟨vs,hc',ha'⟩:=hreal
  rw [hc] at hc'
  have hvs:vs=us:=by
   have:us.toArray=vs.toArray:=by injection hc' with h;injection h with h1 _;injection h1
   have:=congrArg Array.toList this
   simpa using this.symm
  subst hvs
  obtain ⟨u,hu,hcv⟩:=ha'.get (Fj hd)
  obtain ⟨S2,θ2,fr2,Λ2,σ2,L2,mc,j2,h1,hS,h2,h3,h4,h5⟩:=Qm (fun t ht=>htg t (List.mem_append_left _ ht)) h hb (CV.toMV hcv)
  have htk:vs.take (n+1)=vs.take n++[u]:=by
   rw [List.take_add_one,hu]
   rfl
  obtain ⟨S3,θ3,fr3,Λ3,s3,L3,ms,j3,g1,gS,g2,g3,g4,g5⟩:=ih (n+1) j2 (ms0++[mc]) S2 θ2 fr2 Λ2 L2 σ2 G k e (fun t ht=>htg t (List.mem_append_right _ ht)) h4 h1 (by have:=h2.le;omega) (by rw [h2.th i hi];exact hc)
   (by rw [htk];exact (ha.imp fun _ _ x=>x.move hS h2.ev h2.le).append (.cons h3 .nil)) (by omega)
  exact ⟨S3,θ3,fr3,Λ3,s3,L3,ms,j3,g1,hS.trans gS,h2.trans g2,g3,g4,fun K ek=>g5.1 K (h5.1 _ ek),fun K ha=>g5.2 K (h5.2 _ ha)⟩
def Abg (its:List It) (G:MFr->MFr) (L:List LObj) (j:TyI its) (G2:MFr->MFr) (L2:List LObj) (j2:Hp->Prop):Prop:=
 (∀ K:(MFr->MFr)->List LObj->Hp->Prop,j=Xw its G L K->j2=K G2 L2)/\∀ K:(MFr->MFr)->List LObj->Hp->Prop,Ym its G L j K->∀ σ,j2 σ->K G2 L2 σ
theorem Uu {kept:List Bool} {its0:List It} (htg:tg=tgI its0):∀ (its:List It) (j:TyI its) (S:Src) (θ:Nat->Loc) (fr:MFr) (Λ L:List LObj) (σ:Hp) (G:MFr->MFr),RU kept pad its0 its j S fr Λ σ->Bt Γ Γ' F vals σc tg pad bs ls S θ fr Λ σ G L->(∀ i∈U3 its,i∈bs)->(∀ i∈U4 its,i∈ls)->(∀ t∈tgI its,Ec tg t=true) ->
  ∃ S2 θ2 fr2 Λ2 σ2 G2 L2 j2,Bt Γ Γ' F vals σc tg pad bs ls S2 θ2 fr2 Λ2 σ2 G2 L2/\Gw kept Λ2=true/\C7 S2 its0 Λ2=true/\Jo S2 Λ2=true/\j2 σ2/\Abg its G L j G2 L2 j2:=by
 subst htg
 intro its
 induction its with
 | nil=>
  intro j S θ fr Λ L σ G h hb _ _ _
  simp only [RU] at h
  split at h<;>first | exact h.elim | skip
  rename_i h1 h2 h3
  exact ⟨S,θ,fr,Λ,σ,G,L,j,hb,h1,h2,h3,h,fun K ek=>by rw [ek];rfl,fun K ha σ hj=>ha σ hj⟩
 | cons it its ih=>
  intro j S θ fr Λ L σ G h hb hB hL hT
  cases it with
  | slot t p=>
   simp only [RU] at h
   obtain ⟨S2,θ2,fr2,Λ2,σ2,L2,mc,j2,h1,hS,h2,h3,h4,h5⟩:=Qm (fun t ht=>hT t (List.mem_append_left _ ht)) h hb (hb.st.fr t)
   have hb2:Bt Γ Γ' F vals σc (tgI its0) pad bs ls S2 θ2 fr2 Λ2 σ2 (fun fr=>.cons t (toMV mc) (G fr)) L2:=by
    refine ⟨h1.st,h1.len,h1.keys,fun i=>?_,h1.objs⟩
    by_cases e:t=i
    ·subst e
     exact .inr ⟨mc,fun base=>by rw [D3,if_pos rfl],h3⟩
    ·rcases h1.slots i with h6 | ⟨m,h6,h7⟩
     ·exact .inl fun base=>by rw [D3,if_neg e];exact h6 base
     ·exact .inr ⟨m,fun base=>by rw [D3,if_neg e];exact h6 base,h7⟩
   obtain ⟨S3,θ3,fr3,Λ3,s3,G3,L3,j3,g1,g2,g3,g4,g5,g6⟩:=ih j2 S2 θ2 fr2 Λ2 L2 σ2 _ h4 hb2 hB hL (fun t ht=>hT t (List.mem_append_right _ ht))
   exact ⟨S3,θ3,fr3,Λ3,s3,G3,L3,j3,g1,g2,g3,g4,g5,fun K ek=>g6.1 K (h5.1 _ ek),fun K ha=>g6.2 K (h5.2 _ ha)⟩
  | modb i e ps=>
   simp only [RU] at h
   split at h<;>first | exact h.elim | skip
   rename_i e' cs hk hpad hnt
   split at h<;>first | exact h.elim | skip
   rename_i hee hlen
   obtain rfl:=Nat.eq_of_beq_eq_true hee
   have hlen:=Nat.eq_of_beq_eq_true hlen
   have hpad:i<pad:=by have:=Nat.le_of_ble_eq_true hpad;omega
   have hob:=BY (Γ:=Γ') hk (by simp)
   have hreal:=hb.st.hr.real i
   rw [hob] at hreal
   obtain ⟨us,hc,ha⟩:=hreal
   have hi:i<Λ.length:=Dz (by rw [hk];simp)
   obtain ⟨S2,θ2,fr2,Λ2,σ2,L2,ms,j2,h1,hS,h2,h3,h4,h5⟩:=TU ps 0 j [] S θ fr Λ L σ G _ e (fun t ht=>hT t (List.mem_append_left _ ht)) h hb hi hc .nil (by have:=ha.length;omega)
   have hb2:=h1.say (i:=i) (o:=.box e ms) hpad (.inr (.inr (.inr (.inr ⟨hB i (List.mem_cons_self ..),hnt,by have:=h2.le;omega,e,ms,us,by rw [D4 _ _ (by rw [h1.len];exact hpad),if_pos rfl],by rw [h2.th i hi];exact hc,h3⟩))))
   obtain ⟨S3,θ3,fr3,Λ3,s3,G3,L3,j3,g1,g2,g3,g4,g5,g6⟩:=ih j2 S2 θ2 fr2 Λ2 _ σ2 G h4 hb2 (fun k hk=>hB k (List.mem_cons_of_mem _ hk)) hL (fun t ht=>hT t (List.mem_append_right _ ht))
   exact ⟨S3,θ3,fr3,Λ3,s3,G3,L3,j3,g1,g2,g3,g4,g5,fun K ek=>g6.1 K (h5.1 _ ek),fun K ha=>g6.2 K (h5.2 _ ha)⟩
  | modl i g e ss=>
   simp only [RU] at h
   split at h<;>first | exact h.elim | skip
   rename_i e' g' s' xs hk hpad hnt
   split at h<;>first | exact h.elim | skip
   rename_i ys hg he hc
   obtain rfl:=Nat.eq_of_beq_eq_true hg
   obtain rfl:=Nat.eq_of_beq_eq_true he
   obtain ⟨hss,hys⟩:=TB hc
   subst hss
   have hys:xs=ys:=hys
   subst hys
   have hpad:i<pad:=by have:=Nat.le_of_ble_eq_true hpad;omega
   have hb2:=hb.say (i:=i) (o:=.lst e g s' xs) hpad (.inr (.inr (.inr (.inl ⟨hL i (List.mem_cons_self ..),hnt,Dz (by rw [hk];simp),e,g,s',xs,by rw [D4 _ _ (by rw [hb.len];exact hpad),if_pos rfl],.inl hk⟩))))
   obtain ⟨S3,θ3,fr3,Λ3,s3,G3,L3,j3,g1,g2,g3,g4,g5,g6⟩:=ih (j xs) S θ fr Λ _ σ G h hb2 hB (fun k hk=>hL k (List.mem_cons_of_mem _ hk)) hT
   exact ⟨S3,θ3,fr3,Λ3,s3,G3,L3,j3,g1,g2,g3,g4,g5,fun K ek=>g6.1 K (by rw [ek];rfl),fun K ha=>g6.2 K (ha xs)⟩
end
end Go.Proofs.YtoelhdjloaknbaaGreat
