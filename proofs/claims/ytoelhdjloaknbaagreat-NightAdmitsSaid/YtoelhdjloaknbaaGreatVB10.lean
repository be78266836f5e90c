/- What this claim rests on. -/
import Derived.Test.YtoelhdjloaknbaaGreatVB9
namespace Go.Proofs.YtoelhdjloaknbaaGreat
open Go.RowKit
def kb (kept:List Bool) (k:Nat):Bool:=kept.getD k false
theorem TJ (b:Bool) (ks:List Bool) (k:Nat):kb (b::ks) (k+1)=kb ks k:=rfl
theorem OL {ks:List Bool} {k:Nat} (h:ks.length<=k):kb ks k=false:=by
 unfold kb
 rw [List.getD_eq_getElem?_getD,List.getElem?_eq_none h]
 rfl
theorem Abp:∀ (l:List LObj) (k:Nat),Ba l.tail k=Ba l (k+1)
 | [],_=>rfl
 | _::_,_=>rfl
def unl (o:LObj):LObj:=match o with
 | .lk=>.gone
 | o=>o
theorem CO:∀ (ks:List Bool) (l:List LObj),(E9 ks l).length=l.length
 | [],l=>by cases l<;>rfl
 | true::ks,[]=>rfl
 | false::ks,[]=>rfl
 | true::ks,o::l=>by simp [E9,CO ks l]
 | false::ks,o::l=>by simp [E9,CO ks l]
theorem HC:∀ (ks:List Bool) (l:List LObj) (k:Nat),k<l.length->Ba (E9 ks l) k=if kb ks k=true then .lk else if k<ks.length then unl (Ba l k) else Ba l k
 | [],l,k,h=>by cases l<;>simp [E9,kb]
 | _::_,[],k,h=>by simp at h
 | true::ks,o::l,0,h=>by simp [E9,kb,Ba]
 | false::ks,o::l,0,h=>by cases o<;>simp [E9,kb,Ba,unl]
 | true::ks,o::l,k+1,h=>by
  have:=HC ks l k (by simpa using h)
  simpa [E9,Ba,TJ] using this
 | false::ks,o::l,k+1,h=>by
  have:=HC ks l k (by simpa using h)
  simpa [E9,Ba,TJ] using this
theorem Hn:∀ (ks:List Bool) (l Γ:List LObj) (k:Nat),kb ks k=true->k<l.length->Ba (E8 ks l Γ) k=match Ba l k with | .lk=>Ba Γ k | o=>o
 | [],l,Γ,k,h,_=>by rw [OL (by simp)] at h;cases h
 | _::_,[],_,k,_,h=>by simp at h
 | b::ks,o::l,Γ,0,h,_=>by
  have hb:b=true:=h
  subst hb
  cases o<;>simp [E8,Ba]
 | b::ks,o::l,Γ,k+1,h,hl=>by
  have:=Hn ks l Γ.tail k h (by simpa using hl)
  rw [Abp] at this
  cases b<;>exact this
theorem Li:∀ (ks:List Bool) (l:List LObj) (n:Nat),ks.length<=n->(FB ks l n).length=n
 | [],l,n,_=>by cases l<;>simp [FB]
 | true::ks,[],n,h=>by simp [FB]
 | false::ks,[],n,h=>by simp [FB]
 | true::ks,o::l,n,h=>by
  simp only [List.length_cons] at h
  simp only [FB,List.length_cons,Li ks l (n-1) (by omega)]
  omega
 | false::ks,o::l,n,h=>by
  simp only [List.length_cons] at h
  simp only [FB,List.length_cons,Li ks l (n-1) (by omega)]
  omega
theorem HE (n k:Nat):Ba (List.replicate n .gone) k=.gone:=by
 induction n generalizing k with
 | zero=>rfl
 | succ n ih=>cases k with
  | zero=>rfl
  | succ k=>exact ih k
theorem Ko:∀ (ks:List Bool) (l:List LObj) (n k:Nat),k<l.length∨kb ks k=false->Ba (FB ks l n) k=if kb ks k=true then Ba l k else .gone
 | [],l,n,k,_=>by
  have:kb [] k=false:=OL (by simp)
  rw [this]
  cases l<;>simp [FB,HE]
 | true::ks,[],n,k,h=>by
  rcases h with h | h
  ·simp at h
  ·rw [h];simp [FB,HE]
 | false::ks,[],n,k,h=>by
  rcases h with h | h
  ·simp at h
  ·rw [h];simp [FB,HE]
 | true::ks,o::l,n,0,_=>by simp [FB,Ba,kb]
 | false::ks,o::l,n,0,_=>by simp [FB,Ba,kb]
 | true::ks,o::l,n,k+1,h=>by
  have:=Ko ks l (n-1) k (h.imp (fun h=>by simpa using h) id)
  rw [TJ]
  exact this
 | false::ks,o::l,n,k+1,h=>by
  have:=Ko ks l (n-1) k (h.imp (fun h=>by simpa using h) id)
  rw [TJ]
  exact this
theorem CN:∀ {ks:List Bool} {l:List LObj},HN ks l=true->∀ k,(kb ks k=true->Ba l k=.lk)/\(kb ks k=false->Ba l k≠.lk)
 | [],[],_,k=>⟨(fun h=>by rw [OL (by simp)] at h;cases h),(fun _ h=>by cases h)⟩
 | [],o::l,h,k=>by
  have hno:o≠.lk/\HN [] l=true:=by
   cases o<;>simp only [HN] at h<;>first | exact ⟨(fun e=>by cases e),h⟩ | cases h
  refine ⟨(fun h=>by rw [OL (by simp)] at h;cases h),fun _=>?_⟩
  cases k with
  | zero=>exact hno.1
  | succ k=>exact (CN hno.2 k).2 (OL (by simp))
 | true::ks,[],h,k=>by cases h
 | false::ks,[],h,k=>by cases h
 | true::ks,o::l,h,k=>by
  have ho:o=.lk/\HN ks l=true:=by
   cases o<;>simp only [HN] at h<;>first | exact ⟨rfl,h⟩ | cases h
  cases k with
  | zero=>exact ⟨fun _=>ho.1,(fun h=>by cases h)⟩
  | succ k=>exact CN ho.2 k
 | false::ks,o::l,h,k=>by
  have ho:o≠.lk/\HN ks l=true:=by
   cases o<;>simp only [HN] at h<;>first | exact ⟨(fun e=>by cases e),h⟩ | cases h
  cases k with
  | zero=>exact ⟨(fun h=>by cases h),fun _=>ho.1⟩
  | succ k=>exact CN ho.2 k
theorem Nl {tg:List Nat} {pad:Nat}:∀ {ks:List Bool} {l Γ:List LObj} {i:Nat},Nd tg pad ks l Γ i=true->∀ k,kb ks k=true->VW tg pad (match Ba l k with | .lk=>Ba Γ (i+k) | o=>o)=true/\ES tg (i+k)=false
 | [],l,Γ,i,_,k,h=>by rw [OL (by simp)] at h;cases h
 | true::ks,[],Γ,i,h,k,_=>by cases h
 | false::ks,[],Γ,i,h,k,_=>by cases h
 | true::ks,o::l,Γ,i,h,k,hk=>by
  simp only [Nd,Bool.and_eq_true,Bool.not_eq_true'] at h
  cases k with
  | zero=>exact ⟨by have:=h.1.1.1;cases o<;>exact this,by simpa using h.1.1.2⟩
  | succ k=>
   have:=Nl h.2 k hk
   rw [Nat.add_assoc,Nat.add_comm 1 k] at this
   exact this
 | false::ks,o::l,Γ,i,h,k,hk=>by
  simp only [Nd] at h
  cases k with
  | zero=>cases hk
  | succ k=>
   have:=Nl h k hk
   rw [Nat.add_assoc,Nat.add_comm 1 k] at this
   exact this
theorem Gb:∀ {ks:List Bool} {l m r:List LObj},K0 ks l m=some r->r.length=m.length/\∀ k,(kb ks k=true->Ba m k=.lk/\Ba r k=Ba l k)/\(kb ks k=false->Ba m k≠.lk/\Ba r k=Ba m k)
 | [],l,m,r,h=>by
  simp only [K0] at h
  split at h<;>first | (cases h;done) | skip
  rename_i hl
  cases h
  exact ⟨rfl,fun k=>⟨(fun h=>by rw [OL (by simp)] at h;cases h),fun h=>⟨(CN hl k).2 h,rfl⟩⟩⟩
 | true::ks,[],m,r,h=>by cases h
 | false::ks,[],m,r,h=>by cases h
 | true::ks,o::l,m,r,h=>by
  cases m with
  | nil=>cases h
  | cons x m=>
   cases x<;>simp only [K0] at h<;>try (cases h;done)
   split at h<;>first | (cases h;done) | skip
   rename_i r' hr
   cases h
   obtain ⟨h1,h2⟩:=Gb hr
   refine ⟨by simp [h1],fun k=>?_⟩
   cases k with
   | zero=>exact ⟨fun _=>⟨rfl,rfl⟩,(fun h=>by cases h)⟩
   | succ k=>exact h2 k
 | false::ks,o::l,m,r,h=>by
  cases m with
  | nil=>cases h
  | cons x m=>
   have:x≠.lk/\∃ r',K0 ks l m=some r'/\r=x::r':=by
    cases x<;>simp only [K0] at h<;>try (cases h;done)
    all_goals
     split at h<;>first | (cases h;done) | skip
     rename_i r' hr
     cases h
     exact ⟨(fun e=>by cases e),r',hr,rfl⟩
   obtain ⟨hx,r',hr,rfl⟩:=this
   obtain ⟨h1,h2⟩:=Gb hr
   refine ⟨by simp [h1],fun k=>?_⟩
   cases k with
   | zero=>exact ⟨fun h=>(by cases h),fun _=>⟨hx,rfl⟩⟩
   | succ k=>exact h2 k
section
variable {P:Program} {Γ:List LObj} {F σc:Hp} {nt:Nat}
theorem HR.fewer {n:Nat} {θ:Nat->Loc} {O O':Nat->LObj} {σ F σc:Hp} (h:HR n θ O σ F σc) (ho:∀ k,O' k=O k∨O' k=.gone):HR n θ O' σ F σc/\Ev n θ O θ O':=by
 have he:Ev n θ O θ O':=fun k _=>by
  rcases ho k with e | e
  ·rw [e]
   exact ⟨fun _ _ h=>⟨_,h,rfl⟩,fun _ _ _ _ h=>⟨_,_,h,Nat.le_refl _,fun _=>⟨rfl,rfl⟩⟩⟩
  ·rw [e]
   exact ⟨(fun _ _ h=>by cases h),(fun _ _ _ _ h=>by cases h)⟩
 have hb:∀ {k b},blk θ k (O' k)=some b->blk θ k (O k)=some b:=fun {k b} h=>by
  rcases ho k with e | e
  ·rw [← e];exact h
  ·rw [e] at h;cases h
 refine ⟨⟨h.sub,h.fsub,h.dis,fun k=>?_,fun k b e=>h.sep k b (hb e),fun i j b e1 e2=>h.inj i j b (hb e1) (hb e2),fun k hk=>?_⟩,he⟩
 ·rcases ho k with e | e
  ·rw [e]
   exact (h.real k).ev he (Nat.le_refl _) rfl
  ·rw [e];trivial
 ·rcases ho k with e | e
  ·rw [e];exact h.lt k hk
  ·exact e
theorem St.fewer {Γ Γ2:List LObj} {vals:Nat->Value} {θ:Nat->Loc} {fr:MFr} {Λ Λ2:List LObj} {σ:Hp} (hs:St Γ F vals θ fr Λ σ σc) (hl:Λ2.length=Λ.length) (ho:∀ k,obj Γ2 Λ2 k=obj Γ Λ k∨obj Γ2 Λ2 k=.gone):St Γ2 F vals θ fr Λ2 σ σc:=by
 obtain ⟨h1,h2⟩:=hs.hr.fewer ho
 exact ⟨by rw [hl];exact h1,fun t=>by rw [hl];exact (hs.fr t).ev h2 (Nat.le_refl _)⟩
theorem HR.subs {n:Nat} {θ:Nat->Loc} {O:Nat->LObj} {σ σ' F σc:Hp} (h:HR n θ O σ F σc) (hs:Hp.Sub σ' σ):HR n θ O σ' F σc:=by
 have hn:∀ {b},σ b=none->σ' b=none:=fun h=>F6 hs h
 exact ⟨hs.trans h.sub,h.fsub,fun b x e=>hn (h.dis b x e),h.real,fun k b e=>⟨hn (h.sep k b e).1,(h.sep k b e).2⟩,h.inj,h.lt⟩
theorem Yc {ks:List Bool} {Λ:List LObj} (hl:ks.length=Λ.length) (k:Nat):obj (E8 ks Λ Γ) (E9 ks Λ) k=obj Γ Λ k∨obj (E8 ks Λ Γ) (E9 ks Λ) k=.gone:=by
 rcases Nat.lt_or_ge k Λ.length with hk | hk
 ·unfold obj
  rw [HC ks Λ k hk]
  cases hb:kb ks k with
  | true=>
   simp only [if_true]
   rw [Hn ks Λ Γ k hb hk]
   exact .inl rfl
  | false=>
   rw [if_neg (by simp),if_pos (by omega)]
   cases Ba Λ k<;>first | exact .inl rfl | exact .inr rfl
 ·exact .inr (Cn (Fb (by rw [CO];exact hk)) (by simp))
theorem YH {ks:List Bool} {Λ L:List LObj} (_:ks.length<=L.length) (hL:∀ k,kb ks k=true->obj Γ L k=Ba (E8 ks Λ Γ) k) (hN:∀ k,kb ks k=false->Ba L k≠.lk) (k:Nat):obj (E8 ks Λ Γ) (E9 ks L) k=obj Γ L k:=by
 rcases Nat.lt_or_ge k L.length with hk | hk
 ·cases hb:kb ks k with
  | true=>
   rw [hL k hb]
   unfold obj
   rw [HC ks L k hk,if_pos hb]
  | false=>
   have hn:=hN k hb
   unfold obj
   rw [HC ks L k hk,if_neg (by rw [hb];simp)]
   by_cases hlt:k<ks.length
   ·rw [if_pos hlt]
    generalize Ba L k=o at hn
    cases o<;>first | rfl | exact absurd rfl hn
   ·rw [if_neg hlt]
    generalize Ba L k=o at hn
    cases o<;>first | rfl | exact absurd rfl hn
 ·rw [Cn (Γ:=Γ) (Fb hk) (by simp)]
  exact Cn (Fb (by rw [CO];exact hk)) (by simp)
theorem Uu {ks:List Bool} {Λ m r:List LObj} (hl:ks.length=Λ.length) (h:K0 ks Λ m=some r) (k:Nat):obj Γ r k=obj (E8 ks Λ Γ) m k:=by
 obtain ⟨h1,h2⟩:=Gb h
 unfold obj
 cases hb:kb ks k with
 | true=>
  have hk':k<ks.length:=by
   rcases Nat.lt_or_ge k ks.length with h | h
   ·exact h
   ·rw [OL h] at hb;cases hb
  obtain ⟨h3,h4⟩:=(h2 k).1 hb
  rw [h3,h4]
  show _=Ba (E8 ks Λ Γ) k
  rw [Hn ks Λ Γ k hb (by omega)]
  rfl
 | false=>
  obtain ⟨h3,h4⟩:=(h2 k).2 hb
  rw [h4]
  generalize Ba m k=o at h3
  cases o<;>first | rfl | exact absurd rfl h3
def ME (nt:Nat) (Γ:List LObj) (F:Hp) (Q:MQ):Exit->Act->Hp->Prop:=fun e=>MK nt Γ F (Q e)
theorem Bt.start {sp:MSp} {θ:Nat->Loc} {fr:MFr} {Λ Λ1:List LObj} {σ:Hp} {vals:Nat->Value} (hl:sp.kept.length=Λ.length) (hp:sp.kept.length<=sp.pad) (hlk:HN sp.kept Λ1=true) (hs:St (E8 sp.kept Λ Γ) F vals θ fr Λ1 σ σc):
  Bt Γ (E8 sp.kept Λ Γ) F vals σc (tgI sp.its) sp.pad (Zk sp.its) (Zn sp.its) [] θ fr Λ1 σ (fun fr=>fr) (FB sp.kept Λ sp.pad):=by
 refine ⟨hs,Li _ _ _ hp,(fun k a g h=>by cases h),fun t=>.inl fun _=>rfl,fun k=>?_⟩
 cases hb:kb sp.kept k with
 | true=>
  have hk':k<sp.kept.length:=by
   rcases Nat.lt_or_ge k sp.kept.length with h | h
   ·exact h
   ·rw [OL h] at hb;cases hb
  refine .inr (.inl ⟨(CN hlk k).1 hb,?_⟩)
  unfold obj
  rw [Ko _ _ _ _ (.inl (by omega)),if_pos hb,Hn _ _ _ _ hb (by omega)]
  rfl
 | false=>
  refine .inl ⟨?_,fun e=>absurd e ((CN hlk k).2 hb)⟩
  rw [Ko _ _ _ _ (.inr hb),if_neg (by rw [hb];simp)]
theorem Vr {sp:MSp} {θ:Nat->Loc} {fr:MFr} {Λ Λ1:List LObj} {σ:Hp} {vals:Nat->Value} {j:TyI sp.its} (hl:sp.kept.length=Λ.length) (hp:sp.kept.length<=sp.pad) (hkept:Nd (tgI sp.its) sp.pad sp.kept Λ Γ 0=true) (hs:St (E8 sp.kept Λ Γ) F vals θ fr Λ1 σ σc) (h:Abj sp j fr Λ1 σ):
  ∃ θ2 σ2 G2 L2 j2,L2.length=sp.pad/\(∀ k,kb sp.kept k=true->obj Γ L2 k=Ba (E8 sp.kept Λ Γ) k)/\(∀ k,kb sp.kept k=false->Ba L2 k≠.lk)/\(∀ r,(∀ t,CD r t=.v (vals t))->St Γ F vals θ2 (G2 r) L2 σ2 σc)/\j2 σ2/\Ago sp.its (fun fr=>fr) (FB sp.kept Λ sp.pad) j G2 L2 j2:=by
 unfold Abj at h
 split at h<;>first | exact h.elim | skip
 rename_i hlk
 obtain ⟨S2,θ2,fr2,Λ2,σ2,G2,L2,j2,h1,h2,h3,h4,h5,h6⟩:=Zf rfl sp.its j [] θ fr Λ1 _ σ _ h (Bt.start hl hp hlk hs) (fun _ h=>h) (fun _ h=>h) (fun t h=>Qu.2 h)
 have hk2:∀ k,Ba Λ2 k=.lk->VW (tgI sp.its) sp.pad (Ba (E8 sp.kept Λ Γ) k)=true/\ES (tgI sp.its) k=false:=fun k hk=>by
  have hb:kb sp.kept k=true:=by
   cases hb:kb sp.kept k with
   | true=>rfl
   | false=>exact absurd hk ((CN h2 k).2 hb)
  have hk':k<sp.kept.length:=by
   rcases Nat.lt_or_ge k sp.kept.length with h | h
   ·exact h
   ·rw [OL h] at hb;cases hb
  have:=Nl hkept k hb
  rw [Nat.zero_add] at this
  rw [Hn _ _ _ _ hb (by omega)]
  exact this
 refine ⟨thS S2 θ2,σ2,G2,L2,j2,h1.len,fun k hb=>?_,fun k hb=>?_,fun r hr=>h1.st_done h3 h4 hk2 hr,h5,h6⟩
 ·have hlk2:=(CN h2 k).1 hb
  rcases h1.objs k with h | ⟨g1,g2⟩ | ⟨g0,_⟩ | ⟨g0,_⟩ | ⟨g0,_⟩
  ·rw [Cn h.1 (by simp),h.2 hlk2]
  ·exact g2
  ·rw [(hk2 k hlk2).2] at g0;cases g0
  ·have:=(JI h3 k g0).1;rw [hlk2] at this;cases this
  ·have:=JD h3 k g0;rw [hlk2] at this;cases this
 ·have hlk2:=(CN h2 k).2 hb
  rcases h1.objs k with h | ⟨g1,g2⟩ | ⟨_,_,_,_,_,_,_,_,g,_⟩ | ⟨_,_,_,_,_,_,_,g,_⟩ | ⟨_,_,_,_,_,_,g,_⟩
  ·rw [h.1];simp
  ·exact absurd g1 hlk2
  ·rw [g];simp
  ·rw [g];simp
  ·rw [g];simp
theorem ZK {vals:Nat->Value}:∀ (ps:List Tmp) (vs:List Value) (fr:MFr) (ts:Array Value),ts.size=nt->(∀ t∈ps,t<nt)->(∀ t,CD fr t=.v (ts.getD t undef))->ps.length=vs.length ->
  (∀ t,CD (AbS ps vs fr) t=.v (((ps.zip vs).foldl (fun tmps x=>tmps.setIfInBounds x.1 x.2) ts).getD t undef))/\((ps.zip vs).foldl (fun tmps x=>tmps.setIfInBounds x.1 x.2) ts).size=nt
 | [],vs,fr,ts,hs,_,hv,hl=>by
  cases vs<;>first | exact ⟨hv,hs⟩ | cases hl
 | t::ps,[],fr,ts,hs,_,hv,hl=>by cases hl
 | t::ps,v::vs,fr,ts,hs,hlt,hv,hl=>by
  simp only [AbS,List.zip_cons_cons,List.foldl_cons]
  refine ZK (vals:=vals) ps vs _ _ (by simpa using hs) (fun u hu=>hlt u (List.mem_cons_of_mem _ hu)) (fun u=>?_) (by simpa using hl)
  rw [Yj _ _ _ _ (by rw [hs];exact hlt t (List.mem_cons_self ..)),EG,hv]
  split<;>rfl
theorem VP {keep:List (Nat×Bool)} {ws:List Nat} {fr r:MFr} {a a1:Act} {θ:Nat->Loc} {Λ:List LObj} {σ:Hp} {vals1:Nat->Value} (hk:D2 ws a a1) (hok:WI keep ws=true) (hs:MR nt Γ F θ fr Λ σ a σc) (hv:vals1=fun t=>a1.tmps.getD t undef)
  (hr:∀ t,CD r t=CD (.base vals1) t∨((∃ b,(t,b)∈keep)/\∃ x,CD fr t=.v x/\CD r t=.v x)):∀ t,CD r t=.v (vals1 t):=fun t=>by
 rcases hr t with h1 | ⟨⟨b,h1⟩,x,h2,h3⟩
 ·rw [h1];rfl
 ·rw [h3]
  have h4:t ∉ ws:=fun h=>by
   have:=List.all_eq_true.1 hok _ h1
   rw [D3.2 h] at this
   cases this
  have h5:=hs.st.fr t
  rw [h2] at h5
  have h5:a.tmps.getD t undef=x:=h5
  have h6:=hk.2.2 t h4
  rw [hv]
  simp only [Array.getD_eq_getD_getElem?] at h5 ⊢
  rw [h6,h5]
theorem Frm.at {σ σc:Hp} (h:Hp.Sub σ σc) {b:Nat} {x:Obj×Bool} (hb:σ b=some x) (o:Obj):Frm σ σc (σ.ins b o) (σc.ins b o):=by
 refine ⟨fun k y e=>?_,fun k y h1 h2=>?_⟩
 ·unfold Hp.ins at e ⊢
  split at e<;>rename_i hk
  ·rw [if_pos hk];exact e
  ·rw [if_neg hk];exact h _ _ e
 ·have:k≠b:=fun e=>by rw [e,hb] at h1;cases h1
  rw [Hp.ins_ne _ this,Hp.ins_ne _ this]
  exact ⟨h2,h1⟩
def U7 (σ σc:Hp):Hp:=fun b=>match σ b with
 | none=>σc b
 | some _=>none
theorem Aaw {σ σc:Hp} {b:Nat} (h:σ b=none):U7 σ σc b=σc b:=by unfold U7;rw [h]
theorem HR.zero {θ:Nat->Loc} {σ σc:Hp} (h:Hp.Sub σ σc):HR 0 θ (obj [] []) σ (U7 σ σc) σc:=by
 have hF:∀ b x,U7 σ σc b=some x->σ b=none/\σc b=some x:=fun b x e=>by
  unfold U7 at e
  split at e
  ·rename_i h;exact ⟨h,e⟩
  ·cases e
 exact ⟨h,fun b x e=>(hF b x e).2,fun b x e=>(hF b x e).1,fun k=>trivial,(fun k b e=>by cases e),(fun _ _ _ e=>by cases e),fun _ _=>rfl⟩
theorem HR.frmOf {n:Nat} {θ:Nat->Loc} {O:Nat->LObj} {s0 sc0 σ σc:Hp} (h:HR n θ O σ (U7 s0 sc0) σc):Frm s0 sc0 σ σc:=
 ⟨h.sub,fun b x h1 h2=>by
  have h3:U7 s0 sc0 b=some x:=by rw [Aaw h1];exact h2
  exact ⟨h.fsub b x h3,h.dis b x h3⟩⟩
theorem AbW {P:Program} (an:MAn):∀ (c:Code) (Γ:List LObj) (F:Hp) (Q:MQ) (θ:Nat->Loc) (fr:MFr) (Λ:List LObj) (σ:Hp) (a:Act) (σc:Hp),EI nt an c=true->MX P an c Γ Q fr Λ σ->MR nt Γ F θ fr Λ σ a σc->awp P c (ME nt Γ F Q) a σc:=by
 induction an with
 | leaf=>
  intro c Γ F Q θ fr Λ σ a σc hok h hr
  cases c<;>first | (exact (h:False).elim) | exact ⟨θ,fr,Λ,σ,hr,h⟩
 | txt ns=>
  intro c Γ F Q θ fr Λ σ a σc hok h hr
  cases c<;>first | exact (h:False).elim | skip
  rename_i id ops d
  cases d<;>first | exact (h:False).elim | skip
  simp only [EI,Bool.and_eq_true] at hok
  have:=Aax hok.1 _ _ 0 _ _ _ _ _ _ rfl hok.2 h hr
  rw [List.drop_zero] at this
  exact this
 | plan mm p=>
  intro c Γ F Q θ fr Λ σ a σc hok h hr
  cases c<;>first | exact (h:False).elim | skip
  rename_i id ops d
  cases d<;>first | exact (h:False).elim | skip
  simp only [EI,Bool.and_eq_true] at hok
  obtain ⟨⟨⟨hd,hs⟩,hnd⟩,hp⟩:=hok
  simp only [awp,hs,hnd]
  exact ⟨mm,p.plan,hp,Wk hd p _ _ _ _ _ _ _ _ _ hp h hr⟩
 | seq x y ihx ihy=>
  intro c Γ F Q θ fr Λ σ a σc hok h hr
  cases c<;>first | exact (h:False).elim | skip
  rename_i cx cy
  simp only [EI,Bool.and_eq_true] at hok
  show awp P cx (Uv (awp P cy (ME nt Γ F Q)) (ME nt Γ F Q)) a σc
  refine HH _ _ _ _ _ ?_ (ihx _ _ _ _ _ _ _ _ _ _ hok.1 h hr)
  rintro e a' σ' _ ⟨θ',fr',Λ',s'',hr',hq⟩
  cases e with
  | normal=>exact ihy _ _ _ _ _ _ _ _ _ _ hok.2 hq hr'
  | _=>exact ⟨θ',fr',Λ',s'',hr',hq⟩
 | cut sp x y ihx ihy=>
  intro c Γ F Q θ fr Λ σ a σc hok h hr
  cases c<;>first | exact (h:False).elim | skip
  rename_i cx cy
  simp only [EI,Bool.and_eq_true] at hok
  obtain ⟨⟨⟨hkp,hpd⟩,hox⟩,hoy⟩:=hok
  have hpd:=Nat.le_of_ble_eq_true hpd
  simp only [MX] at h
  split at h<;>first | exact h.elim | skip
  rename_i hlen hkept
  have hlen:=Nat.eq_of_beq_eq_true hlen
  show awp P cx (Uv (awp P cy (ME nt Γ F Q)) (ME nt Γ F Q)) a σc
  have hr0:MR nt (E8 sp.kept Λ Γ) F θ fr (E9 sp.kept Λ) σ a σc:=⟨hr.size,hr.defs,hr.st.fewer (CO _ _) (Yc hlen)⟩
  have h:=cut.out h
  refine HH _ _ _ _ _ ?_ (ihx _ _ _ _ _ _ _ _ _ _ hox h hr0)
  rintro e a' σ' hka ⟨θ',fr',Λ',s'',hr',hq⟩
  cases e with
  | normal=>
   obtain ⟨θ2,σ2,G2,L2,j2,h1,_,_,h2,h3,h4⟩:=Vr hlen hpd hkept hr'.st hq
   have h5:=h4.1 _ rfl
   rw [h5] at h3
   obtain ⟨r,hK,hrr⟩:=Ku (h3 fun t=>a'.tmps.getD t undef)
   exact ihy _ _ _ _ _ _ _ _ _ _ hoy hK ⟨hr'.size,hr'.defs,h2 r (VP hka hkp hr rfl hrr)⟩
  | _=>
   simp only [VC,ZR] at hq
   split at hq<;>first | exact hq.elim | skip
   rename_i Λ2 hu
   exact ⟨θ',fr',Λ2,s'',⟨hr'.size,hr'.defs,hr'.st.fewer (Gb hu).1 fun k=>.inl (Uu hlen hu k)⟩,hq⟩
 | cond x y ihx ihy=>
  intro c Γ F Q θ fr Λ σ a σc hok h hr
  cases c<;>first | exact (h:False).elim | skip
  rename_i c cx cy
  simp only [EI,Bool.and_eq_true] at hok
  simp only [MX] at h
  simp only [awp]
  have hc:=hr.st.ev c
  split at h<;>first | exact h.elim | skip
  rename_i b e
  rw [e] at hc
  have hc:evl (fun t=>a.tmps.getD t undef) c=.bool b:=hc
  rw [T4,hc]
  exact TI (fun h=>ihx _ _ _ _ _ _ _ _ _ _ hok.1 h hr) (fun h=>ihy _ _ _ _ _ _ _ _ _ _ hok.2 h hr) h
 | block x ih=>
  intro c Γ F Q θ fr Λ σ a σc hok h hr
  cases c<;>first | exact (h:False).elim | skip
  rename_i id c
  show awp P c (Mf id (ME nt Γ F Q)) a σc
  refine HH _ _ _ _ _ ?_ (ih _ _ _ _ _ _ _ _ _ _ hok h hr)
  rintro e a' σ' _ ⟨θ',fr',Λ',s'',hr',hq⟩
  cases e with
  | exit id'=>
   simp only [Xc] at hq
   simp only [Mf]
   split at hq<;>rename_i e<;>simp only [e]<;>exact ⟨θ',fr',Λ',s'',hr',hq⟩
  | _=>exact ⟨θ',fr',Λ',s'',hr',hq⟩
 | loop sp x ih=>
  intro c Γ F Q θ fr Λ σ a σc hok h hr
  cases c<;>first | exact (h:False).elim | skip
  rename_i c
  simp only [EI,Bool.and_eq_true] at hok
  obtain ⟨⟨hkp,hpd⟩,hox⟩:=hok
  have hpd:=Nat.le_of_ble_eq_true hpd
  simp only [MX] at h
  split at h<;>first | exact h.elim | skip
  rename_i hlen hkept
  have hlen:=Nat.eq_of_beq_eq_true hlen
  obtain ⟨I,⟨k,h0⟩,hI⟩:=h
  refine ⟨fun k a' σ'=>D2 (wrs c) a a'/\∃ θ' fr' Λ' s'',MR nt (E8 sp.kept Λ Γ) F θ' fr' Λ' s'' a' σ'/\Abj sp (I k) fr' Λ' s'',⟨k,D2.refl _ _,θ,fr,_,σ,⟨hr.size,hr.defs,hr.st.fewer (CO _ _) (Yc hlen)⟩,h0⟩,?_⟩
  rintro k a1 s1 ⟨hka,θ1,fr1,Λ1,s1',hr1,h1⟩
  obtain ⟨θ2,σ2,G2,L2,j2,g1,gL,gN,g2,g3,g4⟩:=Vr hlen hpd hkept hr1.st h1
  have h5:=g4.2 _ (hI k) σ2 g3
  obtain ⟨r,hK,hrr⟩:=Ku (h5 fun t=>a1.tmps.getD t undef)
  have hst:=g2 r (VP hka hkp hr rfl hrr)
  have hst2:St (E8 sp.kept Λ Γ) F (fun t=>a1.tmps.getD t undef) θ2 (G2 r) (E9 sp.kept L2) σ2 s1:=hst.fewer (CO _ _) fun k=>.inl (YH (by rw [g1];exact hpd) gL gN k)
  have h2:=ih _ _ _ _ _ _ _ _ _ _ hox hK ⟨hr1.size,hr1.defs,hst2⟩
  refine HH _ _ _ _ _ ?_ h2
  rintro e a' σ' hk2 ⟨θ',fr',Λ',s'',hr',hq⟩
  cases e with
  | normal=>
   obtain ⟨s3,hs,m,hm,hq⟩:=hq
   exact ⟨σ',Hp.Sub.refl _,m,hm,hka.trans hk2,θ',fr',Λ',s3,⟨hr'.size,hr'.defs,hr'.st.hr.subs hs,hr'.st.fr⟩,hq⟩
  | _=>
   simp only [VC,ZR] at hq
   split at hq<;>first | exact hq.elim | skip
   rename_i Λ2 hu
   exact ⟨θ',fr',Λ2,s'',⟨hr'.size,hr'.defs,hr'.st.fewer (Gb hu).1 fun k=>.inl (Uu hlen hu k)⟩,hq⟩
 | rng gs keep ts x y ihx ihy=>
  intro c Γ F Q θ fr Λ σ a σc hok h hr
  cases c<;>first | exact (h:False).elim | skip
  rename_i g ps asg body
  simp only [EI,Bool.and_eq_true] at hok
  obtain ⟨⟨⟨⟨ha,hbd⟩,hps⟩,hx⟩,hy⟩:=hok
  simp only [MX] at h
  obtain ⟨θ1,fr1,Λ1,s1,hst,h⟩:=NH hr.st h
  split at h<;>first | exact h.elim | skip
  rename_i gv hg
  have hgv:=hst.ev g
  rw [hg] at hgv
  have hgv:evl (fun t=>a.tmps.getD t undef) g=gv:=hgv
  simp only [awp,ha,hbd]
  rw [T4,hgv]
  intro l Rec hl hyield
  have hl1:=F6 hst.hr.sub hl
  have hsub1:Hp.Sub (s1.ins l (Rec .ready none)) (σc.ins l (Rec .ready none)):=(Frm.ins hst.hr.sub hl _).1
  have hent:=h l Rec hl1 (fun args σ2 R hr2 hbody=>by
   intro sc2 hsub2
   refine hyield args sc2 _ (hsub2 _ _ hr2) ?_
   obtain ⟨vs,hargs,hbody2⟩:=X1 hbody
   clear hbody
   subst hargs
   split at hbody2<;>first | exact hbody2.elim | skip
   rename_i hsz
   have hsz':vs.length=ps.size:=Nat.eq_of_beq_eq_true hsz
   refine ⟨by simpa using hsz',?_⟩
   obtain ⟨r,hK,hrr⟩:=Ku (hbody2 fun t=>a.tmps.getD t undef)
   have hrv:∀ t,CD r t=.v (a.tmps.getD t undef):=fun t=>by
    rcases hrr t with h1 | ⟨_,x,h2,h3⟩
    ·rw [h1];rfl
    ·have h5:=hst.fr t
     rw [h2] at h5
     rw [h3,(h5:_=_)]
   have hz:(ps.zip vs.toArray).foldl (fun tmps (x:Tmp×Value)=>tmps.setIfInBounds x.1 x.2) a.tmps=(ps.toList.zip vs).foldl (fun tmps x=>tmps.setIfInBounds x.1 x.2) a.tmps:=by
    rw [← Array.foldl_toList,Array.toList_zip]
   obtain ⟨hp1,hp2⟩:=ZK (nt:=nt) (vals:=fun _=>undef) ps.toList vs r a.tmps hr.size (fun t ht=>by simpa using List.all_eq_true.1 hps t ht) hrv (by simpa using hsz'.symm)
   rw [← hz] at hp1 hp2
   have hmr:MR nt [] (U7 σ2 sc2) θ1 (AbS ps.toList vs r) [] σ2 ⟨(ps.zip vs.toArray).foldl (fun tmps (x:Tmp×Value)=>tmps.setIfInBounds x.1 x.2) a.tmps,[]⟩ sc2:=
    ⟨hp2,rfl,HR.zero hsub2,fun t=>by rw [hp1];rfl⟩
   refine HH _ _ _ _ _ ?_ (ihx _ _ _ _ _ _ _ _ _ _ hx hK hmr)
   rintro e a' sc3 _ ⟨θ3,fr3,Λ3,s3,hr3,hq⟩
   cases e with
   | normal=>
    obtain ⟨hq1,hq2⟩:=hq
    refine ⟨hr3.st.hr.sub _ _ hq1,?_⟩
    have hr4:MR nt [] (U7 σ2 sc2) θ3 fr3 Λ3 (s3.ins l (Rec .busy none)) ⟨a'.tmps,[]⟩ (sc3.ins l (Rec .busy none)):=⟨hr3.size,rfl,hr3.st.hr.frm (Frm.at hr3.st.hr.sub hq1 _),hr3.st.fr⟩
    refine HH _ _ _ _ _ ?_ (ihy _ _ _ _ _ _ _ _ _ _ hy hq2 hr4)
    rintro e a'' sc5 _ ⟨θ5,fr5,Λ5,s5,hr5,hq⟩
    have fin:∀ {o:Obj} {v:Value},s5 l=some (Rec .busy none,true)->R v (s5.ins l o)->∃ s1',R v s1'/\Frm σ2 sc2 s1' (sc5.ins l o):=fun {o v} e1 e2=>⟨_,e2,(hr5.st.hr.frmOf).trans (Frm.at hr5.st.hr.sub e1 o)⟩
    cases e<;>first | exact hq.elim | exact ⟨hr5.st.hr.sub _ _ hq.1,fin hq.1 hq.2⟩
   | _=>exact hq.elim) (σc.ins l (Rec .ready none)) hsub1
  refine hent.mono ?_
  rintro v sc2 ⟨σ2,⟨st,pend,h1,h2,h3⟩,hf⟩
  refine ⟨st,pend,hf.1 _ _ h1,h2,?_⟩
  have hr2:MR nt Γ F θ1 fr1 Λ1 (σ2.ins l (Rec .exhausted pend)) a (sc2.ins l (Rec .exhausted pend)):=
   ⟨hr.size,hr.defs,((hst.hr.frm (Frm.ins hst.hr.sub hl _)).frm hf).frm (Frm.at hf.1 h1 _),hst.fr⟩
  unfold Agn at h3
  unfold AaO
  split at h3<;>first | exact h3.elim | exact ⟨θ1,fr1,Λ1,_,hr2,h3⟩
end
def Wz (P:Program):List ResultVar->List MV->MFr->List LObj->Hp->(List MV->Prop)->Prop
 | [],ms,_,_,_,K=>K ms
 | .tmp t::rs,ms,fr,Λ,σ,K=>Wz P rs (ms++[CD fr t]) fr Λ σ K
 | .cell ad t::rs,ms,fr,Λ,σ,K=>match CD fr ad with
  | .bx k off=>match obj [] Λ k with
   | .box _ cs=>match ZP P (obj [] Λ) t cs off with
    | some m=>Wz P rs (ms++[m]) fr Λ σ K
    | none=>False
   | _=>False
  | .v (.pointer p)=>dr p fun b off=>match Ih P t with
   | true=>match (BM P 8 t).length==P.cellsOf t with
    | true=>lfs σ (BM P 8 t) b off 0 fun vs=>Wz P rs (ms++[.v (.agg vs.toArray)]) fr Λ σ K
    | false=>False
   | false=>match P.underlying t with
    | some _=>lf σ (V7 P t) b off fun v=>Wz P rs (ms++[.v v]) fr Λ σ K
    | none=>False
  | _=>False
def Af0 (P:Program) (rs:List ResultVar) (R:Value->Hp->Prop):MQ
 | .normal,fr,Λ,σ | .ret,fr,Λ,σ=>Wz P rs [] fr Λ σ fun ms=>F1 12 ms fr Λ σ fun vs _ _ σ=>∃ σ',Hp.Sub σ' σ/\R (Yl vs) σ'
 | _,_,_,_=>False
def Ze:Nat->List Value->MFr->MFr
 | _,[],fr=>fr
 | i,v::vs,fr=>Ze (i+1) vs (.cons i (.v v) fr)
theorem Vx:∀ (vs:List Value) (i:Nat) (fr:MFr) (t:Nat),CD (Ze i vs fr) t=if i<=t/\t<i+vs.length then .v (vs.getD (t-i) undef) else CD fr t
 | [],i,fr,t=>by simp [Ze];intro h1 h2;omega
 | v::vs,i,fr,t=>by
  rw [Ze,Vx vs (i+1) _ t,EG]
  simp only [List.length_cons]
  by_cases h:i+1<=t/\t<i+1+vs.length
  ·rw [if_pos h,if_pos (by omega)]
   rw [show t-i=(t-(i+1))+1 from by omega,List.getD_cons_succ]
  ·rw [if_neg h]
   by_cases e:i=t
   ·subst e
    rw [if_pos rfl,if_pos (by omega)]
    simp
   ·rw [if_neg e,if_neg (by omega)]
section
variable {P:Program} {F σc:Hp} {nt:Nat}
theorem Zw {a:Act} {θ:Nat->Loc} {fr:MFr} {Λ:List LObj} {σ:Hp} {k:List Value->Prop} (hs:St [] F (fun t=>a.tmps.getD t undef) θ fr Λ σ σc):∀ (rs:List ResultVar) (ms:List MV) (us:List Value) (K:List MV->Prop),Wz P rs ms fr Λ σ K->BR (CV Λ.length θ (obj [] Λ)) ms us ->
  (∀ ms vs,K ms->BR (CV Λ.length θ (obj [] Λ)) ms vs->k vs)->Abk P a σc rs fun vs=>k (us++vs):=by
 intro rs
 induction rs with
 | nil=>
  intro ms us K h ha hk
  show k (us++[])
  rw [List.append_nil]
  exact hk ms us h ha
 | cons r rs ih=>
  intro ms us K h ha hk
  have step:∀ {m:MV} {u:Value},CV Λ.length θ (obj [] Λ) m u->Wz P rs (ms++[m]) fr Λ σ K->Abk P a σc rs fun vs=>k (us++u::vs):=fun {m u} hm h=>by
   have:=ih (ms++[m]) (us++[u]) K h (ha.append (.cons hm .nil)) hk
   simpa using this
  cases r with
  | tmp t=>exact step (hs.fr t) h
  | cell ad t=>
   have had:=hs.fr ad
   simp only [Wz] at h
   show (match a.tmps.getD ad undef with | .pointer p=>_ | _=>False)
   split at h
   ·rename_i k' off hm
    split at h<;>first | exact h.elim | skip
    rename_i e cs ho
    split at h<;>first | exact h.elim | skip
    rename_i m hl
    rw [hm] at had
    have hu:=had.2 _ _ ho
    have hu:a.tmps.getD ad undef=_:=hu
    rw [hu]
    have hreal:=hs.hr.real k'
    rw [ho] at hreal
    obtain ⟨ws,h1,h2⟩:=hreal
    exact SO hl h2 h1 fun u hu=>step hu h
   ·rename_i p hm
    rw [hm] at had
    have hu:a.tmps.getD ad undef=.pointer p:=had
    rw [hu]
    refine G4 (fun b off h=>?_) h
    split at h
    ·rename_i hag
     split at h<;>first | exact h.elim | skip
     rename_i hlen
     rw [hag]
     simp only [hlen]
     exact Wx hs.hr.sub (Mi (fun vs h=>step (m:=.v (.agg vs.toArray)) rfl h) h)
    ·rename_i hag
     split at h<;>first | exact h.elim | skip
     rename_i hu'
     rw [hag]
     simp only [hu']
     exact ZE hs.hr.sub (NL (fun v h=>step (m:=.v v) rfl h) h)
   ·exact h.elim
theorem T1 (hm:P.follows .mixedOrders=true) {f:FuncId} {fn:Func} {c:Code} {args:List Value} {σ:Hp} {R:Value->Hp->Prop} (an:MAn)
  (hf:P.funcs[f]? = some fn) (hb:fn.body=some c) (hok:EI fn.ntmps an c=true) (hsz:Nat.ble args.length fn.ntmps=true) (h:MX P an c [] (Af0 P fn.results.toList R) (Ze 0 args (.base fun _=>undef)) [] σ):Af P f ⟨args⟩ σ R:=by
 intro σc hsub
 have hle:args.length<=fn.ntmps:=Nat.le_of_ble_eq_true hsz
 have hmr:MR fn.ntmps [] (U7 σ σc) (fun _=>⟨true,0,0,0⟩) (Ze 0 args (.base fun _=>undef)) [] σ { tmps:=(⟨args⟩:Array Value)++Array.replicate (fn.ntmps-args.length) undef,defers:=[] } σc:=by
  refine ⟨by simp;omega,rfl,HR.zero hsub,fun t=>?_⟩
  rw [Vx]
  simp only [Nat.zero_le,true_and,Nat.zero_add,Nat.sub_zero,Array.getD_eq_getD_getElem?]
  rw [Array.getElem?_append]
  simp only [List.size_toArray]
  split
  ·simp;rfl
  ·rw [Array.getElem?_replicate]
   split<;>rfl
 refine UZ hm hf hb (HH _ _ _ _ _ ?_ (AbW an c _ _ _ _ _ _ _ _ _ hok h hmr))
 rintro e a' sc' _ ⟨θ',fr',Λ',σ',hr',hq⟩
 have key:(Wz P fn.results.toList [] fr' Λ' σ' fun ms=>F1 12 ms fr' Λ' σ' fun vs _ _ σ=>∃ s'',Hp.Sub s'' σ/\R (Yl vs) s'')->AcQ P fn (fun v sc'=>∃ σ',R v σ'/\Frm σ σc σ' sc') .ret a' sc':=by
  intro h
  simp only [AcQ,hr'.defs]
  have:=Zw (k:=fun vs=>∃ s'',Hp.Sub s'' sc'/\∃ s3,R (Yl vs) s3/\Frm σ σc s3 s'') hr'.st fn.results.toList [] [] _ h .nil fun ms vs hK ha=>by
   obtain ⟨fr2,Λ2,σ2,h1,h2,⟨s3,h3,h4⟩,_⟩:=GY _ _ _ _ _ _ _ hK hr'.st.hr hr'.st.fr ha
   exact ⟨sc',Hp.Sub.refl _,s3,h4,h1.frmOf.less h3⟩
  exact this
 cases e with
 | normal=>exact key hq
 | ret=>exact key hq
 | _=>exact hq
end
theorem Ae {P:Program} (hm:P.follows .mixedOrders=true) {f:FuncId} {fn:Func} {c:Code} {args:List Value} {σ:Hp} {R:Value->Hp->Prop} (an:MAn)
  (hf:P.funcs[f]? = some fn) (hb:fn.body=some c) (hok:EI fn.ntmps an c=true:=by kernel_rfl) (hsz:Nat.ble args.length fn.ntmps=true:=by kernel_rfl) {M:Prop} (he:M=MX P an c [] (Af0 P fn.results.toList R) (Ze 0 args (.base fun _=>undef)) [] σ:=by kernel_rfl) (h:M):Af P f ⟨args⟩ σ R:=
 T1 hm an hf hb hok hsz (he▸h)
end Go.Proofs.YtoelhdjloaknbaaGreat
