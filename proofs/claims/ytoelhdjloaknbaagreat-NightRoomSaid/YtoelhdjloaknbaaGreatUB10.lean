/- What this claim rests on. -/
import Derived.Test.YtoelhdjloaknbaaGreatUB9
namespace Go.Proofs.YtoelhdjloaknbaaGreat
open Go.RowKit
def kb (kept:List Bool) (k:Nat):Bool:=kept.getD k false
theorem PX (b:Bool) (ks:List Bool) (k:Nat):kb (b::ks) (k+1)=kb ks k:=rfl
theorem LX {ks:List Bool} {k:Nat} (h:ks.length<=k):kb ks k=false:=by
 unfold kb
 rw [List.getD_eq_getElem?_getD,List.getElem?_eq_none h]
 rfl
theorem VZ:∀ (l:List LObj) (k:Nat),AI l.tail k=AI l (k+1)
 | [],_=>rfl
 | _::_,_=>rfl
def unl (o:LObj):LObj:=match o with
 | .lk=>.gone
 | o=>o
theorem Cj:∀ (ks:List Bool) (l:List LObj),(Em ks l).length=l.length
 | [],l=>by cases l<;>rfl
 | true::ks,[]=>rfl
 | false::ks,[]=>rfl
 | true::ks,o::l=>by simp [Em,Cj ks l]
 | false::ks,o::l=>by simp [Em,Cj ks l]
theorem GI:∀ (ks:List Bool) (l:List LObj) (k:Nat),k<l.length->AI (Em ks l) k=if kb ks k=true then .lk else if k<ks.length then unl (AI l k) else AI l k
 | [],l,k,h=>by cases l<;>simp [Em,kb]
 | _::_,[],k,h=>by simp at h
 | true::ks,o::l,0,h=>by simp [Em,kb,AI]
 | false::ks,o::l,0,h=>by cases o<;>simp [Em,kb,AI,unl]
 | true::ks,o::l,k+1,h=>by
  have:=GI ks l k (by simpa using h)
  simpa [Em,AI,PX] using this
 | false::ks,o::l,k+1,h=>by
  have:=GI ks l k (by simpa using h)
  simpa [Em,AI,PX] using this
theorem Gy:∀ (ks:List Bool) (l Γ:List LObj) (k:Nat),kb ks k=true->k<l.length->AI (Ep ks l Γ) k=match AI l k with | .lk=>AI Γ k | o=>o
 | [],l,Γ,k,h,_=>by rw [LX (by simp)] at h;cases h
 | _::_,[],_,k,_,h=>by simp at h
 | b::ks,o::l,Γ,0,h,_=>by
  have hb:b=true:=h
  subst hb
  cases o<;>simp [Ep,AI]
 | b::ks,o::l,Γ,k+1,h,hl=>by
  have:=Gy ks l Γ.tail k h (by simpa using hl)
  rw [VZ] at this
  cases b<;>exact this
theorem Jf:∀ (ks:List Bool) (l:List LObj) (n:Nat),ks.length<=n->(ET ks l n).length=n
 | [],l,n,_=>by cases l<;>simp [ET]
 | true::ks,[],n,h=>by simp [ET]
 | false::ks,[],n,h=>by simp [ET]
 | true::ks,o::l,n,h=>by
  simp only [List.length_cons] at h
  simp only [ET,List.length_cons,Jf ks l (n-1) (by omega)]
  omega
 | false::ks,o::l,n,h=>by
  simp only [List.length_cons] at h
  simp only [ET,List.length_cons,Jf ks l (n-1) (by omega)]
  omega
theorem GO (n k:Nat):AI (List.replicate n .gone) k=.gone:=by
 induction n generalizing k with
 | zero=>rfl
 | succ n ih=>cases k with
  | zero=>rfl
  | succ k=>exact ih k
theorem IL:∀ (ks:List Bool) (l:List LObj) (n k:Nat),k<l.length∨kb ks k=false->AI (ET ks l n) k=if kb ks k=true then AI l k else .gone
 | [],l,n,k,_=>by
  have:kb [] k=false:=LX (by simp)
  rw [this]
  cases l<;>simp [ET,GO]
 | true::ks,[],n,k,h=>by
  rcases h with h | h
  ·simp at h
  ·rw [h];simp [ET,GO]
 | false::ks,[],n,k,h=>by
  rcases h with h | h
  ·simp at h
  ·rw [h];simp [ET,GO]
 | true::ks,o::l,n,0,_=>by simp [ET,AI,kb]
 | false::ks,o::l,n,0,_=>by simp [ET,AI,kb]
 | true::ks,o::l,n,k+1,h=>by
  have:=IL ks l (n-1) k (h.imp (fun h=>by simpa using h) id)
  rw [PX]
  exact this
 | false::ks,o::l,n,k+1,h=>by
  have:=IL ks l (n-1) k (h.imp (fun h=>by simpa using h) id)
  rw [PX]
  exact this
theorem Ck:∀ {ks:List Bool} {l:List LObj},Gw ks l=true->∀ k,(kb ks k=true->AI l k=.lk)/\(kb ks k=false->AI l k≠.lk)
 | [],[],_,k=>⟨(fun h=>by rw [LX (by simp)] at h;cases h),(fun _ h=>by cases h)⟩
 | [],o::l,h,k=>by
  have hno:o≠.lk/\Gw [] l=true:=by
   cases o<;>simp only [Gw] at h<;>first | exact ⟨(fun e=>by cases e),h⟩ | cases h
  refine ⟨(fun h=>by rw [LX (by simp)] at h;cases h),fun _=>?_⟩
  cases k with
  | zero=>exact hno.1
  | succ k=>exact (Ck hno.2 k).2 (LX (by simp))
 | true::ks,[],h,k=>by cases h
 | false::ks,[],h,k=>by cases h
 | true::ks,o::l,h,k=>by
  have ho:o=.lk/\Gw ks l=true:=by
   cases o<;>simp only [Gw] at h<;>first | exact ⟨rfl,h⟩ | cases h
  cases k with
  | zero=>exact ⟨fun _=>ho.1,(fun h=>by cases h)⟩
  | succ k=>exact Ck ho.2 k
 | false::ks,o::l,h,k=>by
  have ho:o≠.lk/\Gw ks l=true:=by
   cases o<;>simp only [Gw] at h<;>first | exact ⟨(fun e=>by cases e),h⟩ | cases h
  cases k with
  | zero=>exact ⟨(fun h=>by cases h),fun _=>ho.1⟩
  | succ k=>exact Ck ho.2 k
theorem Ku {tg:List Nat} {pad:Nat}:∀ {ks:List Bool} {l Γ:List LObj} {i:Nat},K3 tg pad ks l Γ i=true->∀ k,kb ks k=true->RJ tg pad (match AI l k with | .lk=>AI Γ (i+k) | o=>o)=true/\Ec tg (i+k)=false
 | [],l,Γ,i,_,k,h=>by rw [LX (by simp)] at h;cases h
 | true::ks,[],Γ,i,h,k,_=>by cases h
 | false::ks,[],Γ,i,h,k,_=>by cases h
 | true::ks,o::l,Γ,i,h,k,hk=>by
  simp only [K3,Bool.and_eq_true,Bool.not_eq_true'] at h
  cases k with
  | zero=>exact ⟨by have:=h.1.1.1;cases o<;>exact this,by simpa using h.1.1.2⟩
  | succ k=>
   have:=Ku h.2 k hk
   rw [Nat.add_assoc,Nat.add_comm 1 k] at this
   exact this
 | false::ks,o::l,Γ,i,h,k,hk=>by
  simp only [K3] at h
  cases k with
  | zero=>cases hk
  | succ k=>
   have:=Ku h k hk
   rw [Nat.add_assoc,Nat.add_comm 1 k] at this
   exact this
theorem Fr:∀ {ks:List Bool} {l m r:List LObj},Ju ks l m=some r->r.length=m.length/\∀ k,(kb ks k=true->AI m k=.lk/\AI r k=AI l k)/\(kb ks k=false->AI m k≠.lk/\AI r k=AI m k)
 | [],l,m,r,h=>by
  simp only [Ju] at h
  split at h<;>first | (cases h;done) | skip
  rename_i hl
  cases h
  exact ⟨rfl,fun k=>⟨(fun h=>by rw [LX (by simp)] at h;cases h),fun h=>⟨(Ck hl k).2 h,rfl⟩⟩⟩
 | true::ks,[],m,r,h=>by cases h
 | false::ks,[],m,r,h=>by cases h
 | true::ks,o::l,m,r,h=>by
  cases m with
  | nil=>cases h
  | cons x m=>
   cases x<;>simp only [Ju] at h<;>try (cases h;done)
   split at h<;>first | (cases h;done) | skip
   rename_i r' hr
   cases h
   obtain ⟨h1,h2⟩:=Fr hr
   refine ⟨by simp [h1],fun k=>?_⟩
   cases k with
   | zero=>exact ⟨fun _=>⟨rfl,rfl⟩,(fun h=>by cases h)⟩
   | succ k=>exact h2 k
 | false::ks,o::l,m,r,h=>by
  cases m with
  | nil=>cases h
  | cons x m=>
   have:x≠.lk/\∃ r',Ju ks l m=some r'/\r=x::r':=by
    cases x<;>simp only [Ju] at h<;>try (cases h;done)
    all_goals
     split at h<;>first | (cases h;done) | skip
     rename_i r' hr
     cases h
     exact ⟨(fun e=>by cases e),r',hr,rfl⟩
   obtain ⟨hx,r',hr,rfl⟩:=this
   obtain ⟨h1,h2⟩:=Fr hr
   refine ⟨by simp [h1],fun k=>?_⟩
   cases k with
   | zero=>exact ⟨fun h=>(by cases h),fun _=>⟨hx,rfl⟩⟩
   | succ k=>exact h2 k
section
variable {P:Program} {Γ:List LObj} {F σc:Hp} {nt:Nat}
theorem HR.fewer {n:Nat} {θ:Nat->Loc} {O O':Nat->LObj} {σ F σc:Hp} (h:HR n θ O σ F σc) (ho:∀ k,O' k=O k∨O' k=.gone):HR n θ O' σ F σc/\Ev n θ O θ O':=by
 have he:Ev n θ O θ O':=fun k _=>by
  rcases ho k with e | e
  ·rw [e]
   exact ⟨fun _ _ h=>⟨_,h,rfl⟩,fun _ _ _ _ h=>⟨_,_,h,Nat.le_refl _,fun _=>⟨rfl,rfl⟩⟩⟩
  ·rw [e]
   exact ⟨(fun _ _ h=>by cases h),(fun _ _ _ _ h=>by cases h)⟩
 have hb:∀ {k b},blk θ k (O' k)=some b->blk θ k (O k)=some b:=fun {k b} h=>by
  rcases ho k with e | e
  ·rw [← e];exact h
  ·rw [e] at h;cases h
 refine ⟨⟨h.sub,h.fsub,h.dis,fun k=>?_,fun k b e=>h.sep k b (hb e),fun i j b e1 e2=>h.inj i j b (hb e1) (hb e2),fun k hk=>?_⟩,he⟩
 ·rcases ho k with e | e
  ·rw [e]
   exact (h.real k).ev he (Nat.le_refl _) rfl
  ·rw [e];trivial
 ·rcases ho k with e | e
  ·rw [e];exact h.lt k hk
  ·exact e
theorem St.fewer {Γ Γ2:List LObj} {vals:Nat->Value} {θ:Nat->Loc} {fr:MFr} {Λ Λ2:List LObj} {σ:Hp} (hs:St Γ F vals θ fr Λ σ σc) (hl:Λ2.length=Λ.length) (ho:∀ k,obj Γ2 Λ2 k=obj Γ Λ k∨obj Γ2 Λ2 k=.gone):St Γ2 F vals θ fr Λ2 σ σc:=by
 obtain ⟨h1,h2⟩:=hs.hr.fewer ho
 exact ⟨by rw [hl];exact h1,fun t=>by rw [hl];exact (hs.fr t).ev h2 (Nat.le_refl _)⟩
theorem HR.subs {n:Nat} {θ:Nat->Loc} {O:Nat->LObj} {σ σ' F σc:Hp} (h:HR n θ O σ F σc) (hs:Hp.Sub σ' σ):HR n θ O σ' F σc:=by
 have hn:∀ {b},σ b=none->σ' b=none:=fun h=>Fy hs h
 exact ⟨hs.trans h.sub,h.fsub,fun b x e=>hn (h.dis b x e),h.real,fun k b e=>⟨hn (h.sep k b e).1,(h.sep k b e).2⟩,h.inj,h.lt⟩
theorem SZ {ks:List Bool} {Λ:List LObj} (hl:ks.length=Λ.length) (k:Nat):obj (Ep ks Λ Γ) (Em ks Λ) k=obj Γ Λ k∨obj (Ep ks Λ Γ) (Em ks Λ) k=.gone:=by
 rcases Nat.lt_or_ge k Λ.length with hk | hk
 ·unfold obj
  rw [GI ks Λ k hk]
  cases hb:kb ks k with
  | true=>
   simp only [if_true]
   rw [Gy ks Λ Γ k hb hk]
   exact .inl rfl
  | false=>
   rw [if_neg (by simp),if_pos (by omega)]
   cases AI Λ k<;>first | exact .inl rfl | exact .inr rfl
 ·exact .inr (BY (EB (by rw [Cj];exact hk)) (by simp))
theorem UR {ks:List Bool} {Λ L:List LObj} (_:ks.length<=L.length) (hL:∀ k,kb ks k=true->obj Γ L k=AI (Ep ks Λ Γ) k) (hN:∀ k,kb ks k=false->AI L k≠.lk) (k:Nat):obj (Ep ks Λ Γ) (Em ks L) k=obj Γ L k:=by
 rcases Nat.lt_or_ge k L.length with hk | hk
 ·cases hb:kb ks k with
  | true=>
   rw [hL k hb]
   unfold obj
   rw [GI ks L k hk,if_pos hb]
  | false=>
   have hn:=hN k hb
   unfold obj
   rw [GI ks L k hk,if_neg (by rw [hb];simp)]
   by_cases hlt:k<ks.length
   ·rw [if_pos hlt]
    generalize AI L k=o at hn
    cases o<;>first | rfl | exact absurd rfl hn
   ·rw [if_neg hlt]
    generalize AI L k=o at hn
    cases o<;>first | rfl | exact absurd rfl hn
 ·rw [BY (Γ:=Γ) (EB hk) (by simp)]
  exact BY (EB (by rw [Cj];exact hk)) (by simp)
theorem Qz {ks:List Bool} {Λ m r:List LObj} (hl:ks.length=Λ.length) (h:Ju ks Λ m=some r) (k:Nat):obj Γ r k=obj (Ep ks Λ Γ) m k:=by
 obtain ⟨h1,h2⟩:=Fr h
 unfold obj
 cases hb:kb ks k with
 | true=>
  have hk':k<ks.length:=by
   rcases Nat.lt_or_ge k ks.length with h | h
   ·exact h
   ·rw [LX h] at hb;cases hb
  obtain ⟨h3,h4⟩:=(h2 k).1 hb
  rw [h3,h4]
  show _=AI (Ep ks Λ Γ) k
  rw [Gy ks Λ Γ k hb (by omega)]
  rfl
 | false=>
  obtain ⟨h3,h4⟩:=(h2 k).2 hb
  rw [h4]
  generalize AI m k=o at h3
  cases o<;>first | rfl | exact absurd rfl h3
def ME (nt:Nat) (Γ:List LObj) (F:Hp) (Q:MQ):Exit->Act->Hp->Prop:=fun e=>MK nt Γ F (Q e)
theorem Bt.start {sp:MSp} {θ:Nat->Loc} {fr:MFr} {Λ Λ1:List LObj} {σ:Hp} {vals:Nat->Value} (hl:sp.kept.length=Λ.length) (hp:sp.kept.length<=sp.pad) (hlk:Gw sp.kept Λ1=true) (hs:St (Ep sp.kept Λ Γ) F vals θ fr Λ1 σ σc):
  Bt Γ (Ep sp.kept Λ Γ) F vals σc (tgI sp.its) sp.pad (U3 sp.its) (U4 sp.its) [] θ fr Λ1 σ (fun fr=>fr) (ET sp.kept Λ sp.pad):=by
 refine ⟨hs,Jf _ _ _ hp,(fun k a g h=>by cases h),fun t=>.inl fun _=>rfl,fun k=>?_⟩
 cases hb:kb sp.kept k with
 | true=>
  have hk':k<sp.kept.length:=by
   rcases Nat.lt_or_ge k sp.kept.length with h | h
   ·exact h
   ·rw [LX h] at hb;cases hb
  refine .inr (.inl ⟨(Ck hlk k).1 hb,?_⟩)
  unfold obj
  rw [IL _ _ _ _ (.inl (by omega)),if_pos hb,Gy _ _ _ _ hb (by omega)]
  rfl
 | false=>
  refine .inl ⟨?_,fun e=>absurd e ((Ck hlk k).2 hb)⟩
  rw [IL _ _ _ _ (.inr hb),if_neg (by rw [hb];simp)]
theorem Rz {sp:MSp} {θ:Nat->Loc} {fr:MFr} {Λ Λ1:List LObj} {σ:Hp} {vals:Nat->Value} {j:TyI sp.its} (hl:sp.kept.length=Λ.length) (hp:sp.kept.length<=sp.pad) (hkept:K3 (tgI sp.its) sp.pad sp.kept Λ Γ 0=true) (hs:St (Ep sp.kept Λ Γ) F vals θ fr Λ1 σ σc) (h:WC sp j fr Λ1 σ):
  ∃ θ2 σ2 G2 L2 j2,L2.length=sp.pad/\(∀ k,kb sp.kept k=true->obj Γ L2 k=AI (Ep sp.kept Λ Γ) k)/\(∀ k,kb sp.kept k=false->AI L2 k≠.lk)/\(∀ r,(∀ t,B8 r t=.v (vals t))->St Γ F vals θ2 (G2 r) L2 σ2 σc)/\j2 σ2/\Abg sp.its (fun fr=>fr) (ET sp.kept Λ sp.pad) j G2 L2 j2:=by
 unfold WC at h
 split at h<;>first | exact h.elim | skip
 rename_i hlk
 obtain ⟨S2,θ2,fr2,Λ2,σ2,G2,L2,j2,h1,h2,h3,h4,h5,h6⟩:=Uu rfl sp.its j [] θ fr Λ1 _ σ _ h (Bt.start hl hp hlk hs) (fun _ h=>h) (fun _ h=>h) (fun t h=>M7.2 h)
 have hk2:∀ k,AI Λ2 k=.lk->RJ (tgI sp.its) sp.pad (AI (Ep sp.kept Λ Γ) k)=true/\Ec (tgI sp.its) k=false:=fun k hk=>by
  have hb:kb sp.kept k=true:=by
   cases hb:kb sp.kept k with
   | true=>rfl
   | false=>exact absurd hk ((Ck h2 k).2 hb)
  have hk':k<sp.kept.length:=by
   rcases Nat.lt_or_ge k sp.kept.length with h | h
   ·exact h
   ·rw [LX h] at hb;cases hb
  have:=Ku hkept k hb
  rw [Nat.zero_add] at this
  rw [Gy _ _ _ _ hb (by omega)]
  exact this
 refine ⟨thS S2 θ2,σ2,G2,L2,j2,h1.len,fun k hb=>?_,fun k hb=>?_,fun r hr=>h1.st_done h3 h4 hk2 hr,h5,h6⟩
 ·have hlk2:=(Ck h2 k).1 hb
  rcases h1.objs k with h | ⟨g1,g2⟩ | ⟨g0,_⟩ | ⟨g0,_⟩ | ⟨g0,_⟩
  ·rw [BY h.1 (by simp),h.2 hlk2]
  ·exact g2
  ·rw [(hk2 k hlk2).2] at g0;cases g0
  ·have:=(Ic h3 k g0).1;rw [hlk2] at this;cases this
  ·have:=Ik h3 k g0;rw [hlk2] at this;cases this
 ·have hlk2:=(Ck h2 k).2 hb
  rcases h1.objs k with h | ⟨g1,g2⟩ | ⟨_,_,_,_,_,_,_,_,g,_⟩ | ⟨_,_,_,_,_,_,_,g,_⟩ | ⟨_,_,_,_,_,_,g,_⟩
  ·rw [h.1];simp
  ·exact absurd g1 hlk2
  ·rw [g];simp
  ·rw [g];simp
  ·rw [g];simp
theorem Vh {vals:Nat->Value}:∀ (ps:List Tmp) (vs:List Value) (fr:MFr) (ts:Array Value),ts.size=nt->(∀ t∈ps,t<nt)->(∀ t,B8 fr t=.v (ts.getD t undef))->ps.length=vs.length ->
  (∀ t,B8 (XH ps vs fr) t=.v (((ps.zip vs).foldl (fun tmps x=>tmps.setIfInBounds x.1 x.2) ts).getD t undef))/\((ps.zip vs).foldl (fun tmps x=>tmps.setIfInBounds x.1 x.2) ts).size=nt
 | [],vs,fr,ts,hs,_,hv,hl=>by
  cases vs<;>first | exact ⟨hv,hs⟩ | cases hl
 | t::ps,[],fr,ts,hs,_,hv,hl=>by cases hl
 | t::ps,v::vs,fr,ts,hs,hlt,hv,hl=>by
  simp only [XH,List.zip_cons_cons,List.foldl_cons]
  refine Vh (vals:=vals) ps vs _ _ (by simpa using hs) (fun u hu=>hlt u (List.mem_cons_of_mem _ hu)) (fun u=>?_) (by simpa using hl)
  rw [TD _ _ _ _ (by rw [hs];exact hlt t (List.mem_cons_self ..)),D3,hv]
  split<;>rfl
theorem Rk {keep:List (Nat×Bool)} {ws:List Nat} {fr r:MFr} {a a1:Act} {θ:Nat->Loc} {Λ:List LObj} {σ:Hp} {vals1:Nat->Value} (hk:Dv ws a a1) (hok:Si keep ws=true) (hs:MR nt Γ F θ fr Λ σ a σc) (hv:vals1=fun t=>a1.tmps.getD t undef)
  (hr:∀ t,B8 r t=B8 (.base vals1) t∨((∃ b,(t,b)∈keep)/\∃ x,B8 fr t=.v x/\B8 r t=.v x)):∀ t,B8 r t=.v (vals1 t):=fun t=>by
 rcases hr t with h1 | ⟨⟨b,h1⟩,x,h2,h3⟩
 ·rw [h1];rfl
 ·rw [h3]
  have h4:t ∉ ws:=fun h=>by
   have:=List.all_eq_true.1 hok _ h1
   rw [Dx.2 h] at this
   cases this
  have h5:=hs.st.fr t
  rw [h2] at h5
  have h5:a.tmps.getD t undef=x:=h5
  have h6:=hk.2.2 t h4
  rw [hv]
  simp only [Array.getD_eq_getD_getElem?] at h5 ⊢
  rw [h6,h5]
theorem Frm.at {σ σc:Hp} (h:Hp.Sub σ σc) {b:Nat} {x:Obj×Bool} (hb:σ b=some x) (o:Obj):Frm σ σc (σ.ins b o) (σc.ins b o):=by
 refine ⟨fun k y e=>?_,fun k y h1 h2=>?_⟩
 ·unfold Hp.ins at e ⊢
  split at e<;>rename_i hk
  ·rw [if_pos hk];exact e
  ·rw [if_neg hk];exact h _ _ e
 ·have:k≠b:=fun e=>by rw [e,hb] at h1;cases h1
  rw [Hp.ins_ne _ this,Hp.ins_ne _ this]
  exact ⟨h2,h1⟩
def Q3 (σ σc:Hp):Hp:=fun b=>match σ b with
 | none=>σc b
 | some _=>none
theorem V9 {σ σc:Hp} {b:Nat} (h:σ b=none):Q3 σ σc b=σc b:=by unfold Q3;rw [h]
theorem HR.zero {θ:Nat->Loc} {σ σc:Hp} (h:Hp.Sub σ σc):HR 0 θ (obj [] []) σ (Q3 σ σc) σc:=by
 have hF:∀ b x,Q3 σ σc b=some x->σ b=none/\σc b=some x:=fun b x e=>by
  unfold Q3 at e
  split at e
  ·rename_i h;exact ⟨h,e⟩
  ·cases e
 exact ⟨h,fun b x e=>(hF b x e).2,fun b x e=>(hF b x e).1,fun k=>trivial,(fun k b e=>by cases e),(fun _ _ _ e=>by cases e),fun _ _=>rfl⟩
theorem HR.frmOf {n:Nat} {θ:Nat->Loc} {O:Nat->LObj} {s0 sc0 σ σc:Hp} (h:HR n θ O σ (Q3 s0 sc0) σc):Frm s0 sc0 σ σc:=
 ⟨h.sub,fun b x h1 h2=>by
  have h3:Q3 s0 sc0 b=some x:=by rw [V9 h1];exact h2
  exact ⟨h.fsub b x h3,h.dis b x h3⟩⟩
theorem YS {P:Program} (an:MAn):∀ (c:Code) (Γ:List LObj) (F:Hp) (Q:MQ) (θ:Nat->Loc) (fr:MFr) (Λ:List LObj) (σ:Hp) (a:Act) (σc:Hp),D2 nt an c=true->K9 P an c Γ Q fr Λ σ->MR nt Γ F θ fr Λ σ a σc->awp P c (ME nt Γ F Q) a σc:=by
 induction an with
 | leaf=>
  intro c Γ F Q θ fr Λ σ a σc hok h hr
  cases c<;>first | (exact (h:False).elim) | exact ⟨θ,fr,Λ,σ,hr,h⟩
 | txt ns=>
  intro c Γ F Q θ fr Λ σ a σc hok h hr
  cases c<;>first | exact (h:False).elim | skip
  rename_i id ops d
  cases d<;>first | exact (h:False).elim | skip
  simp only [D2,Bool.and_eq_true] at hok
  have:=Wk hok.1 _ _ 0 _ _ _ _ _ _ rfl hok.2 h hr
  rw [List.drop_zero] at this
  exact this
 | plan mm p=>
  intro c Γ F Q θ fr Λ σ a σc hok h hr
  cases c<;>first | exact (h:False).elim | skip
  rename_i id ops d
  cases d<;>first | exact (h:False).elim | skip
  simp only [D2,Bool.and_eq_true] at hok
  obtain ⟨⟨⟨hd,hs⟩,hnd⟩,hp⟩:=hok
  simp only [awp,hs,hnd]
  exact ⟨mm,p.plan,hp,Sd hd p _ _ _ _ _ _ _ _ _ hp h hr⟩
 | seq x y ihx ihy=>
  intro c Γ F Q θ fr Λ σ a σc hok h hr
  cases c<;>first | exact (h:False).elim | skip
  rename_i cx cy
  simp only [D2,Bool.and_eq_true] at hok
  show awp P cx (Qy (awp P cy (ME nt Γ F Q)) (ME nt Γ F Q)) a σc
  refine GH _ _ _ _ _ ?_ (ihx _ _ _ _ _ _ _ _ _ _ hok.1 h hr)
  rintro e a' σ' _ ⟨θ',fr',Λ',s'',hr',hq⟩
  cases e with
  | normal=>exact ihy _ _ _ _ _ _ _ _ _ _ hok.2 hq hr'
  | _=>exact ⟨θ',fr',Λ',s'',hr',hq⟩
 | cut sp x y ihx ihy=>
  intro c Γ F Q θ fr Λ σ a σc hok h hr
  cases c<;>first | exact (h:False).elim | skip
  rename_i cx cy
  simp only [D2,Bool.and_eq_true] at hok
  obtain ⟨⟨⟨hkp,hpd⟩,hox⟩,hoy⟩:=hok
  have hpd:=Nat.le_of_ble_eq_true hpd
  simp only [K9] at h
  split at h<;>first | exact h.elim | skip
  rename_i hlen hkept
  have hlen:=Nat.eq_of_beq_eq_true hlen
  show awp P cx (Qy (awp P cy (ME nt Γ F Q)) (ME nt Γ F Q)) a σc
  have hr0:MR nt (Ep sp.kept Λ Γ) F θ fr (Em sp.kept Λ) σ a σc:=⟨hr.size,hr.defs,hr.st.fewer (Cj _ _) (SZ hlen)⟩
  have h:=cut.out h
  refine GH _ _ _ _ _ ?_ (ihx _ _ _ _ _ _ _ _ _ _ hox h hr0)
  rintro e a' σ' hka ⟨θ',fr',Λ',s'',hr',hq⟩
  cases e with
  | normal=>
   obtain ⟨θ2,σ2,G2,L2,j2,h1,_,_,h2,h3,h4⟩:=Rz hlen hpd hkept hr'.st hq
   have h5:=h4.1 _ rfl
   rw [h5] at h3
   obtain ⟨r,hK,hrr⟩:=I3 (h3 fun t=>a'.tmps.getD t undef)
   exact ihy _ _ _ _ _ _ _ _ _ _ hoy hK ⟨hr'.size,hr'.defs,h2 r (Rk hka hkp hr rfl hrr)⟩
  | _=>
   simp only [Ry,VD] at hq
   split at hq<;>first | exact hq.elim | skip
   rename_i Λ2 hu
   exact ⟨θ',fr',Λ2,s'',⟨hr'.size,hr'.defs,hr'.st.fewer (Fr hu).1 fun k=>.inl (Qz hlen hu k)⟩,hq⟩
 | cond x y ihx ihy=>
  intro c Γ F Q θ fr Λ σ a σc hok h hr
  cases c<;>first | exact (h:False).elim | skip
  rename_i c cx cy
  simp only [D2,Bool.and_eq_true] at hok
  simp only [K9] at h
  simp only [awp]
  have hc:=hr.st.ev c
  split at h<;>first | exact h.elim | skip
  rename_i b e
  rw [e] at hc
  have hc:evl (fun t=>a.tmps.getD t undef) c=.bool b:=hc
  rw [QO,hc]
  exact PP (fun h=>ihx _ _ _ _ _ _ _ _ _ _ hok.1 h hr) (fun h=>ihy _ _ _ _ _ _ _ _ _ _ hok.2 h hr) h
 | block x ih=>
  intro c Γ F Q θ fr Λ σ a σc hok h hr
  cases c<;>first | exact (h:False).elim | skip
  rename_i id c
  show awp P c (K8 id (ME nt Γ F Q)) a σc
  refine GH _ _ _ _ _ ?_ (ih _ _ _ _ _ _ _ _ _ _ hok h hr)
  rintro e a' σ' _ ⟨θ',fr',Λ',s'',hr',hq⟩
  cases e with
  | exit id'=>
   simp only [TE] at hq
   simp only [K8]
   split at hq<;>rename_i e<;>simp only [e]<;>exact ⟨θ',fr',Λ',s'',hr',hq⟩
  | _=>exact ⟨θ',fr',Λ',s'',hr',hq⟩
 | loop sp x ih=>
  intro c Γ F Q θ fr Λ σ a σc hok h hr
  cases c<;>first | exact (h:False).elim | skip
  rename_i c
  simp only [D2,Bool.and_eq_true] at hok
  obtain ⟨⟨hkp,hpd⟩,hox⟩:=hok
  have hpd:=Nat.le_of_ble_eq_true hpd
  simp only [K9] at h
  split at h<;>first | exact h.elim | skip
  rename_i hlen hkept
  have hlen:=Nat.eq_of_beq_eq_true hlen
  obtain ⟨I,⟨k,h0⟩,hI⟩:=h
  refine ⟨fun k a' σ'=>Dv (wrs c) a a'/\∃ θ' fr' Λ' s'',MR nt (Ep sp.kept Λ Γ) F θ' fr' Λ' s'' a' σ'/\WC sp (I k) fr' Λ' s'',⟨k,Dv.refl _ _,θ,fr,_,σ,⟨hr.size,hr.defs,hr.st.fewer (Cj _ _) (SZ hlen)⟩,h0⟩,?_⟩
  rintro k a1 s1 ⟨hka,θ1,fr1,Λ1,s1',hr1,h1⟩
  obtain ⟨θ2,σ2,G2,L2,j2,g1,gL,gN,g2,g3,g4⟩:=Rz hlen hpd hkept hr1.st h1
  have h5:=g4.2 _ (hI k) σ2 g3
  obtain ⟨r,hK,hrr⟩:=I3 (h5 fun t=>a1.tmps.getD t undef)
  have hst:=g2 r (Rk hka hkp hr rfl hrr)
  have hst2:St (Ep sp.kept Λ Γ) F (fun t=>a1.tmps.getD t undef) θ2 (G2 r) (Em sp.kept L2) σ2 s1:=hst.fewer (Cj _ _) fun k=>.inl (UR (by rw [g1];exact hpd) gL gN k)
  have h2:=ih _ _ _ _ _ _ _ _ _ _ hox hK ⟨hr1.size,hr1.defs,hst2⟩
  refine GH _ _ _ _ _ ?_ h2
  rintro e a' σ' hk2 ⟨θ',fr',Λ',s'',hr',hq⟩
  cases e with
  | normal=>
   obtain ⟨s3,hs,m,hm,hq⟩:=hq
   exact ⟨σ',Hp.Sub.refl _,m,hm,hka.trans hk2,θ',fr',Λ',s3,⟨hr'.size,hr'.defs,hr'.st.hr.subs hs,hr'.st.fr⟩,hq⟩
  | _=>
   simp only [Ry,VD] at hq
   split at hq<;>first | exact hq.elim | skip
   rename_i Λ2 hu
   exact ⟨θ',fr',Λ2,s'',⟨hr'.size,hr'.defs,hr'.st.fewer (Fr hu).1 fun k=>.inl (Qz hlen hu k)⟩,hq⟩
 | rng gs keep ts x y ihx ihy=>
  intro c Γ F Q θ fr Λ σ a σc hok h hr
  cases c<;>first | exact (h:False).elim | skip
  rename_i g ps asg body
  simp only [D2,Bool.and_eq_true] at hok
  obtain ⟨⟨⟨⟨ha,hbd⟩,hps⟩,hx⟩,hy⟩:=hok
  simp only [K9] at h
  obtain ⟨θ1,fr1,Λ1,s1,hst,h⟩:=Lh hr.st h
  split at h<;>first | exact h.elim | skip
  rename_i gv hg
  have hgv:=hst.ev g
  rw [hg] at hgv
  have hgv:evl (fun t=>a.tmps.getD t undef) g=gv:=hgv
  simp only [awp,ha,hbd]
  rw [QO,hgv]
  intro l Rec hl hyield
  have hl1:=Fy hst.hr.sub hl
  have hsub1:Hp.Sub (s1.ins l (Rec .ready none)) (σc.ins l (Rec .ready none)):=(Frm.ins hst.hr.sub hl _).1
  have hent:=h l Rec hl1 (fun args σ2 R hr2 hbody=>by
   intro sc2 hsub2
   refine hyield args sc2 _ (hsub2 _ _ hr2) ?_
   obtain ⟨vs,hargs,hbody2⟩:=ST hbody
   clear hbody
   subst hargs
   split at hbody2<;>first | exact hbody2.elim | skip
   rename_i hsz
   have hsz':vs.length=ps.size:=Nat.eq_of_beq_eq_true hsz
   refine ⟨by simpa using hsz',?_⟩
   obtain ⟨r,hK,hrr⟩:=I3 (hbody2 fun t=>a.tmps.getD t undef)
   have hrv:∀ t,B8 r t=.v (a.tmps.getD t undef):=fun t=>by
    rcases hrr t with h1 | ⟨_,x,h2,h3⟩
    ·rw [h1];rfl
    ·have h5:=hst.fr t
     rw [h2] at h5
     rw [h3,(h5:_=_)]
   have hz:(ps.zip vs.toArray).foldl (fun tmps (x:Tmp×Value)=>tmps.setIfInBounds x.1 x.2) a.tmps=(ps.toList.zip vs).foldl (fun tmps x=>tmps.setIfInBounds x.1 x.2) a.tmps:=by
    rw [← Array.foldl_toList,Array.toList_zip]
   obtain ⟨hp1,hp2⟩:=Vh (nt:=nt) (vals:=fun _=>undef) ps.toList vs r a.tmps hr.size (fun t ht=>by simpa using List.all_eq_true.1 hps t ht) hrv (by simpa using hsz'.symm)
   rw [← hz] at hp1 hp2
   have hmr:MR nt [] (Q3 σ2 sc2) θ1 (XH ps.toList vs r) [] σ2 ⟨(ps.zip vs.toArray).foldl (fun tmps (x:Tmp×Value)=>tmps.setIfInBounds x.1 x.2) a.tmps,[]⟩ sc2:=
    ⟨hp2,rfl,HR.zero hsub2,fun t=>by rw [hp1];rfl⟩
   refine GH _ _ _ _ _ ?_ (ihx _ _ _ _ _ _ _ _ _ _ hx hK hmr)
   rintro e a' sc3 _ ⟨θ3,fr3,Λ3,s3,hr3,hq⟩
   cases e with
   | normal=>
    obtain ⟨hq1,hq2⟩:=hq
    refine ⟨hr3.st.hr.sub _ _ hq1,?_⟩
    have hr4:MR nt [] (Q3 σ2 sc2) θ3 fr3 Λ3 (s3.ins l (Rec .busy none)) ⟨a'.tmps,[]⟩ (sc3.ins l (Rec .busy none)):=⟨hr3.size,rfl,hr3.st.hr.frm (Frm.at hr3.st.hr.sub hq1 _),hr3.st.fr⟩
    refine GH _ _ _ _ _ ?_ (ihy _ _ _ _ _ _ _ _ _ _ hy hq2 hr4)
    rintro e a'' sc5 _ ⟨θ5,fr5,Λ5,s5,hr5,hq⟩
    have fin:∀ {o:Obj} {v:Value},s5 l=some (Rec .busy none,true)->R v (s5.ins l o)->∃ s1',R v s1'/\Frm σ2 sc2 s1' (sc5.ins l o):=fun {o v} e1 e2=>⟨_,e2,(hr5.st.hr.frmOf).trans (Frm.at hr5.st.hr.sub e1 o)⟩
    cases e<;>first | exact hq.elim | exact ⟨hr5.st.hr.sub _ _ hq.1,fin hq.1 hq.2⟩
   | _=>exact hq.elim) (σc.ins l (Rec .ready none)) hsub1
  refine hent.mono ?_
  rintro v sc2 ⟨σ2,⟨st,pend,h1,h2,h3⟩,hf⟩
  refine ⟨st,pend,hf.1 _ _ h1,h2,?_⟩
  have hr2:MR nt Γ F θ1 fr1 Λ1 (σ2.ins l (Rec .exhausted pend)) a (sc2.ins l (Rec .exhausted pend)):=
   ⟨hr.size,hr.defs,((hst.hr.frm (Frm.ins hst.hr.sub hl _)).frm hf).frm (Frm.at hf.1 h1 _),hst.fr⟩
  unfold Abl at h3
  unfold VT
  split at h3<;>first | exact h3.elim | exact ⟨θ1,fr1,Λ1,_,hr2,h3⟩
end
def RZ (P:Program):List ResultVar->List MV->MFr->List LObj->Hp->(List MV->Prop)->Prop
 | [],ms,_,_,_,K=>K ms
 | .tmp t::rs,ms,fr,Λ,σ,K=>RZ P rs (ms++[B8 fr t]) fr Λ σ K
 | .cell ad t::rs,ms,fr,Λ,σ,K=>match B8 fr ad with
  | .bx k off=>match obj [] Λ k with
   | .box _ cs=>match VA P (obj [] Λ) t cs off with
    | some m=>RZ P rs (ms++[m]) fr Λ σ K
    | none=>False
   | _=>False
  | .v (.pointer p)=>dr p fun b off=>match GT P t with
   | true=>match (Bi P 8 t).length==P.cellsOf t with
    | true=>lfs σ (Bi P 8 t) b off 0 fun vs=>RZ P rs (ms++[.v (.agg vs.toArray)]) fr Λ σ K
    | false=>False
   | false=>match P.underlying t with
    | some _=>lf σ (RQ P t) b off fun v=>RZ P rs (ms++[.v v]) fr Λ σ K
    | none=>False
  | _=>False
def Abp (P:Program) (rs:List ResultVar) (R:Value->Hp->Prop):MQ
 | .normal,fr,Λ,σ | .ret,fr,Λ,σ=>RZ P rs [] fr Λ σ fun ms=>Fa 12 ms fr Λ σ fun vs _ _ σ=>∃ σ',Hp.Sub σ' σ/\R (Tn vs) σ'
 | _,_,_,_=>False
def UN:Nat->List Value->MFr->MFr
 | _,[],fr=>fr
 | i,v::vs,fr=>UN (i+1) vs (.cons i (.v v) fr)
theorem Ri:∀ (vs:List Value) (i:Nat) (fr:MFr) (t:Nat),B8 (UN i vs fr) t=if i<=t/\t<i+vs.length then .v (vs.getD (t-i) undef) else B8 fr t
 | [],i,fr,t=>by simp [UN];intro h1 h2;omega
 | v::vs,i,fr,t=>by
  rw [UN,Ri vs (i+1) _ t,D3]
  simp only [List.length_cons]
  by_cases h:i+1<=t/\t<i+1+vs.length
  ·rw [if_pos h,if_pos (by omega)]
   rw [show t-i=(t-(i+1))+1 from by omega,List.getD_cons_succ]
  ·rw [if_neg h]
   by_cases e:i=t
   ·subst e
    rw [if_pos rfl,if_pos (by omega)]
    simp
   ·rw [if_neg e,if_neg (by omega)]
section
variable {P:Program} {F σc:Hp} {nt:Nat}
theorem Um {a:Act} {θ:Nat->Loc} {fr:MFr} {Λ:List LObj} {σ:Hp} {k:List Value->Prop} (hs:St [] F (fun t=>a.tmps.getD t undef) θ fr Λ σ σc):∀ (rs:List ResultVar) (ms:List MV) (us:List Value) (K:List MV->Prop),RZ P rs ms fr Λ σ K->Bq (CV Λ.length θ (obj [] Λ)) ms us ->
  (∀ ms vs,K ms->Bq (CV Λ.length θ (obj [] Λ)) ms vs->k vs)->Ws P a σc rs fun vs=>k (us++vs):=by
 intro rs
 induction rs with
 | nil=>
  intro ms us K h ha hk
  show k (us++[])
  rw [List.append_nil]
  exact hk ms us h ha
 | cons r rs ih=>
  intro ms us K h ha hk
  have step:∀ {m:MV} {u:Value},CV Λ.length θ (obj [] Λ) m u->RZ P rs (ms++[m]) fr Λ σ K->Ws P a σc rs fun vs=>k (us++u::vs):=fun {m u} hm h=>by
   have:=ih (ms++[m]) (us++[u]) K h (ha.append (.cons hm .nil)) hk
   simpa using this
  cases r with
  | tmp t=>exact step (hs.fr t) h
  | cell ad t=>
   have had:=hs.fr ad
   simp only [RZ] at h
   show (match a.tmps.getD ad undef with | .pointer p=>_ | _=>False)
   split at h
   ·rename_i k' off hm
    split at h<;>first | exact h.elim | skip
    rename_i e cs ho
    split at h<;>first | exact h.elim | skip
    rename_i m hl
    rw [hm] at had
    have hu:=had.2 _ _ ho
    have hu:a.tmps.getD ad undef=_:=hu
    rw [hu]
    have hreal:=hs.hr.real k'
    rw [ho] at hreal
    obtain ⟨ws,h1,h2⟩:=hreal
    exact O6 hl h2 h1 fun u hu=>step hu h
   ·rename_i p hm
    rw [hm] at had
    have hu:a.tmps.getD ad undef=.pointer p:=had
    rw [hu]
    refine F7 (fun b off h=>?_) h
    split at h
    ·rename_i hag
     split at h<;>first | exact h.elim | skip
     rename_i hlen
     rw [hag]
     simp only [hlen]
     exact Sy hs.hr.sub (K5 (fun vs h=>step (m:=.v (.agg vs.toArray)) rfl h) h)
    ·rename_i hag
     split at h<;>first | exact h.elim | skip
     rename_i hu'
     rw [hag]
     simp only [hu']
     exact Ul hs.hr.sub (Le (fun v h=>step (m:=.v v) rfl h) h)
   ·exact h.elim
theorem QC (hm:P.follows .mixedOrders=true) {f:FuncId} {fn:Func} {c:Code} {args:List Value} {σ:Hp} {R:Value->Hp->Prop} (an:MAn)
  (hf:P.funcs[f]? = some fn) (hb:fn.body=some c) (hok:D2 fn.ntmps an c=true) (hsz:Nat.ble args.length fn.ntmps=true) (h:K9 P an c [] (Abp P fn.results.toList R) (UN 0 args (.base fun _=>undef)) [] σ):Af P f ⟨args⟩ σ R:=by
 intro σc hsub
 have hle:args.length<=fn.ntmps:=Nat.le_of_ble_eq_true hsz
 have hmr:MR fn.ntmps [] (Q3 σ σc) (fun _=>⟨true,0,0,0⟩) (UN 0 args (.base fun _=>undef)) [] σ { tmps:=(⟨args⟩:Array Value)++Array.replicate (fn.ntmps-args.length) undef,defers:=[] } σc:=by
  refine ⟨by simp;omega,rfl,HR.zero hsub,fun t=>?_⟩
  rw [Ri]
  simp only [Nat.zero_le,true_and,Nat.zero_add,Nat.sub_zero,Array.getD_eq_getD_getElem?]
  rw [Array.getElem?_append]
  simp only [List.size_toArray]
  split
  ·simp;rfl
  ·rw [Array.getElem?_replicate]
   split<;>rfl
 refine QY hm hf hb (GH _ _ _ _ _ ?_ (YS an c _ _ _ _ _ _ _ _ _ hok h hmr))
 rintro e a' sc' _ ⟨θ',fr',Λ',σ',hr',hq⟩
 have key:(RZ P fn.results.toList [] fr' Λ' σ' fun ms=>Fa 12 ms fr' Λ' σ' fun vs _ _ σ=>∃ s'',Hp.Sub s'' σ/\R (Tn vs) s'')->YL P fn (fun v sc'=>∃ σ',R v σ'/\Frm σ σc σ' sc') .ret a' sc':=by
  intro h
  simp only [YL,hr'.defs]
  have:=Um (k:=fun vs=>∃ s'',Hp.Sub s'' sc'/\∃ s3,R (Tn vs) s3/\Frm σ σc s3 s'') hr'.st fn.results.toList [] [] _ h .nil fun ms vs hK ha=>by
   obtain ⟨fr2,Λ2,σ2,h1,h2,⟨s3,h3,h4⟩,_⟩:=Ge _ _ _ _ _ _ _ hK hr'.st.hr hr'.st.fr ha
   exact ⟨sc',Hp.Sub.refl _,s3,h4,h1.frmOf.less h3⟩
  exact this
 cases e with
 | normal=>exact key hq
 | ret=>exact key hq
 | _=>exact hq
end
theorem Ae {P:Program} (hm:P.follows .mixedOrders=true) {f:FuncId} {fn:Func} {c:Code} {args:List Value} {σ:Hp} {R:Value->Hp->Prop} (an:MAn)
  (hf:P.funcs[f]? = some fn) (hb:fn.body=some c) (hok:D2 fn.ntmps an c=true:=by kernel_rfl) (hsz:Nat.ble args.length fn.ntmps=true:=by kernel_rfl) {M:Prop} (he:M=K9 P an c [] (Abp P fn.results.toList R) (UN 0 args (.base fun _=>undef)) [] σ:=by kernel_rfl) (h:M):Af P f ⟨args⟩ σ R:=
 QC hm an hf hb hok hsz (he▸h)
end Go.Proofs.YtoelhdjloaknbaaGreat
