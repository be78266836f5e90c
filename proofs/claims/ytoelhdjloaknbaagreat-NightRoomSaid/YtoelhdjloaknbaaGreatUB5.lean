/- What this claim rests on. -/
import Derived.Test.YtoelhdjloaknbaaGreatUB3
namespace Go.Proofs.YtoelhdjloaknbaaGreat
open Go.RowKit
section
variable {P:Program} {Γ Λ:List LObj} {θ:Nat->Loc} {σ F σc:Hp} {fr:MFr} {vals:Nat->Value} {h:Bool} {K:MV->MFr->List LObj->Hp->Prop}
theorem Vs {α:Type} (O:Nat->α) (k:Nat) (a b:α):upd (upd O k a) k b=upd O k b:=by
 funext i
 unfold upd
 split<;>rfl
theorem NV {α:Type} (O:Nat->α) (k:Nat) (a:α) (h:O k=a):upd O k a=O:=by
 funext i
 unfold upd
 split
 ·rename_i e;rw [e,h]
 ·rfl
theorem OW {n:Nat} {O:Nat->LObj} {p:Prop}:∀ {ms:List MC} {vs:List Value},K1 O ms p->Bq (CVc n θ O) ms vs->(∀ v∈vs,Gg v=true)/\p
 | [],_,h,.nil=>⟨(fun v hv=>by cases hv),h⟩
 | m::ms,_,h,.cons (b:=u) h1 h2=>by
  have key:Gg u=true/\K1 O ms p:=by
   cases m with
   | v x=>
    obtain ⟨h3,h4⟩:=DA.1 h
    rw [(h1:_=_)]
    exact ⟨h3,h4⟩
   | bx k o=>
    simp only [K1] at h
    split at h<;>first | exact h.elim | skip
    rename_i hb
    obtain ⟨e,cs,ho⟩:=E1 hb
    rw [h1.2 _ _ ho]
    exact ⟨rfl,h⟩
   | ls k g=>
    simp only [K1] at h
    split at h<;>first | exact h.elim | skip
    rename_i hb
    obtain ⟨e,ss,xs,ho⟩:=H0 hb
    rw [(h1.2 _ _ _ _ ho).2 rfl]
    exact ⟨rfl,h⟩
  obtain ⟨h5,h6⟩:=OW key.2 h2
  refine ⟨fun v hv=>?_,h6⟩
  rcases List.mem_cons.1 hv with rfl | hv
  ·exact key.1
  ·exact h5 v hv
theorem U9 {n k:Nat} {e:TypeId} {off:Nat} {Q:Hp->Prop} (hkn:k<n):∀ (ms:List MC) (vs:List Value) (i:Nat) (O:Nat->LObj) (cs:List MC) (σc:Hp),O k=.box e cs->HR n θ O σ F σc->Bq (CVc n θ O) ms vs->(∀ v∈vs,Gg v=true)->off+i+ms.length<=cs.length ->
  (∀ sc',HR n θ (upd O k (.box e (Pb cs (off+i) ms))) σ F sc'->Ev n θ O θ (upd O k (.box e (Pb cs (off+i) ms)))->Q sc')->stc σc (θ k).b off i vs Q
 | [],_,i,O,cs,σc,hk,hr,.nil,_,_,hq=>hq σc (by rw [Pb,NV _ _ _ hk];exact hr) (by rw [Pb,NV _ _ _ hk];exact Ev.refl _ _ _)
 | m::ms,_,i,O,cs,σc,hk,hr,.cons (b:=u) (ys:=us) h1 h2,ho,hl,hq=>by
  simp only [List.length_cons] at hl
  have hreal:=hr.real k
  rw [hk] at hreal
  obtain ⟨ws,hb,ha⟩:=hreal
  have hlen:=ha.length
  refine DA.2 ⟨ho u (List.mem_cons_self ..),⟨ws.toArray,e,hb,by rw [KY];show off+i<ws.toArray.size;simp;omega,rfl⟩,?_⟩
  obtain ⟨h3,h4⟩:=hr.write (θ':=θ) (sc':=σc.put ⟨(θ k).b,ofs off i,none⟩ u) (k:=k) hkn (b:=(θ k).b) (by rw [hk];rfl) (.box e (cs.set (off+i) m)) (fun b' hb'=>by cases hb';rfl) (fun _ _=>rfl)
   ⟨(fun e' cs' h=>by cases h;exact ⟨cs,hk,rfl⟩),(fun _ _ _ _ h=>by cases h)⟩ (fun c hc=>Hp.put_ne hc) (fun hev=>⟨ws.set (off+i) u,by rw [KY,Hp.put_same hb];simp,((ha.set h1 (off+i)).imp fun _ _ x=>x.ev hev (Nat.le_refl _))⟩)
  refine U9 hkn ms us (i+1) _ (cs.set (off+i) m) _ (Au _ _ _) h3 (h2.imp fun _ _ x=>x.ev h4 (Nat.le_refl _)) (fun v hv=>ho v (List.mem_cons_of_mem _ hv)) (by simp;omega) ?_
  intro sc' h5 h6
  rw [Vs] at h5 h6
  refine hq sc' ?_ ?_
  ·rw [Pb];exact h5
  ·rw [Pb];exact h4.trans (Nat.le_refl _) h6
theorem VO {n k g:Nat} {e:TypeId} {ss:List Sh} {idx j0:Nat} {Q:Hp->Prop} (hkn:k<n) (hnil:(θ k).nil=false):∀ (vs:List Value) (i:Nat) (O:Nat->LObj) (xs:List (TyR ss)) (r r':TyR ss) (σc:Hp),O k=.lst e g ss xs->HR n θ O σ F σc->(hi:idx<xs.length)->xs[idx]=r->VG ss r (j0+i) vs=some r' ->
  (∀ sc',HR n θ (upd O k (.lst e g ss (xs.set idx r'))) σ F sc'->Ev n θ O θ (upd O k (.lst e g ss (xs.set idx r')))->Q sc')->stc σc (θ k).b ((θ k).off+(idx*ss.length+j0)) i vs Q
 | [],i,O,xs,r,r',σc,hk,hr,hi,hx,hset,hq=>by
  cases hset
  have:xs.set idx r=xs:=by rw [← hx];simp
  rw [this,NV _ _ _ hk] at hq
  exact hq σc hr (Ev.refl _ _ _)
 | v::vs,i,O,xs,r,r',σc,hk,hr,hi,hx,hset,hq=>by
  simp only [VG] at hset
  split at hset<;>first | (cases hset;done) | skip
  rename_i r1 hr1
  obtain ⟨hj,he,ho⟩:=MW hr1
  have hreal:=hr.real k
  rw [hk] at hreal
  have h2:=hreal.2
  rw [hnil] at h2
  obtain ⟨cells,hb,hsz,hrow⟩:=h2
  have hbound:(θ k).off+(idx*ss.length+(j0+i))<cells.size:=by
   have:=Oc (n:=xs.length) hi hj
   have h3:xs.length*ss.length<=(θ k).c*ss.length:=Nat.mul_le_mul_right _ hreal.1
   omega
  have eoff:ofs ((θ k).off+(idx*ss.length+j0)) i=(θ k).off+(idx*ss.length+(j0+i)):=by rw [KY];omega
  refine DA.2 ⟨ho,⟨cells,e,hb,by rw [eoff];exact hbound,rfl⟩,?_⟩
  obtain ⟨h3,h4⟩:=hr.write (θ':=θ) (sc':=σc.put ⟨(θ k).b,ofs ((θ k).off+(idx*ss.length+j0)) i,none⟩ v) (k:=k) hkn (b:=(θ k).b) (by
    rw [hk]
    show (match (θ k).nil with | true=>none | false=>some (θ k).b)=_
    rw [hnil]) (.lst e g ss (xs.set idx r1)) (fun b' hb'=>by
    simp only [blk,hnil,Option.some.injEq] at hb'
    exact hb'.symm) (fun _ _=>rfl)
   ⟨(fun e' cs' h=>by cases h),fun e' g' ss' xs' h=>by cases h;exact ⟨g,xs,hk,Nat.le_refl _,fun _=>⟨by simp,rfl⟩⟩⟩ (fun c hc=>Hp.put_ne hc) (fun hev=>⟨by simpa using hreal.1,by
    rw [hnil]
    refine ⟨cells.setIfInBounds (ofs ((θ k).off+(idx*ss.length+j0)) i) v,Hp.put_same hb,by simpa using hsz,?_⟩
    rw [eoff]
    exact hrow.set hi (by rw [hx];exact hr1) hbound⟩)
  refine VO hkn hnil vs (i+1) _ (xs.set idx r1) r1 r' _ (Au _ _ _) h3 (by simpa using hi) (by simp) hset ?_
  intro sc' h5 h6
  rw [Vs] at h5 h6
  have:(xs.set idx r1).set idx r'=xs.set idx r':=by simp
  rw [this] at h5 h6
  exact hq sc' h5 (h4.trans (Nat.le_refl _) h6)
theorem RX {o:Oper} {t:TypeId} {x v:Operand} {p:Prop} (hop:o.op=.store t x v) (hs:St Γ F vals θ fr Λ σ σc) (e:Ug P h fr Γ Λ σ K t x v=some p) (hp:p):lOp P o (evl vals) σc (Pst Γ F vals h σc K):=by
 unfold lOp
 rw [hop]
 show lE P o (evl vals) σc _
 unfold lE
 rw [hop]
 have hx:=hs.ev x
 have hv:=hs.ev v
 unfold Ug at e
 split at e
 ·rename_i k off hm
  split at e
  ·rename_i e' cs i hk hinfo
   cases e
   have hob:=BY (Γ:=Γ) hk (by simp)
   rw [hm] at hx
   have hlt:k<Λ.length:=hx.1
   obtain ⟨ms,hp,ha⟩:=O4 hp hv
   split at hp<;>first | exact hp.elim | skip
   rename_i hlen hle
   have hlen:=Nat.eq_of_beq_eq_true hlen
   have hle:=Nat.le_of_ble_eq_true hle
   have hal:=ha.length
   obtain ⟨ho,hp⟩:=OW hp ha
   simp only [hx.2 _ _ hob,hinfo]
   have hsz:((evl vals v).cells.size==P.cellsOf t)=true:=by
    rw [beq_iff_eq,← hlen,hal]
    simp
   rw [hsz]
   show stc σc (θ k).b off 0 (evl vals v).cells.toList _
   refine U9 hlt ms _ 0 _ cs σc hob hs.hr ha ho (by omega) ?_
   intro sc' h1 h2
   rw [Nat.add_zero] at h1 h2
   refine Pst.of (θ':=θ) (fun hh=>by cases hh) ?_ hp rfl
   refine hs.next ?_ ?_ (by rw [Bd];exact Nat.le_refl _)
   ·rw [Bd,CQ hlt (by simp)];exact h1
   ·rw [CQ hlt (by simp)];exact h2
  ·cases e;exact hp.elim
 ·rename_i k g i j hm
  split at e
  ·rename_i e' g' ss xs ti hk hinfo
   split at e
   ·rename_i u hg hu
    obtain rfl:=Nat.eq_of_beq_eq_true hg
    split at e
    ·rename_i hlen
     have hlen:=Nat.eq_of_beq_eq_true hlen
     cases e
     obtain ⟨hi,hp⟩:=hp
     split at hp<;>first | exact hp.elim | skip
     rename_i r' hset
     have hob:=BY (Γ:=Γ) hk (by simp)
     rw [hm] at hx
     have hlt:k<Λ.length:=hx.1
     rw [hu] at hv
     have hv:evl vals v=u:=hv
     obtain ⟨h1,hnil,h3⟩:=(hx.2 _ _ _ _ hob).2 rfl
     simp only [h3,hv,hinfo]
     have hsz:(u.cells.size==P.cellsOf t)=true:=by
      rw [beq_iff_eq,← hlen]
      simp
     rw [hsz]
     show stc σc (θ k).b ((θ k).off+(i*ss.length+j)) 0 u.cells.toList _
     refine VO hlt hnil _ 0 _ xs _ r' σc hob hs.hr hi rfl hset ?_
     intro sc' h4 h5
     refine Pst.of (θ':=θ) (fun hh=>by cases hh) ?_ hp rfl
     refine hs.next ?_ ?_ (by rw [Bd];exact Nat.le_refl _)
     ·rw [Bd,CQ hlt (by simp)];exact h4
     ·rw [CQ hlt (by simp)];exact h5
    ·cases e;exact hp.elim
   ·cases e;exact hp.elim
  ·cases e;exact hp.elim
 ·cases e
theorem St.relist (hs:St Γ F vals θ fr Λ σ σc) {k g:Nat} {e:TypeId} {ss:List Sh} {xs ys:List (TyR ss)} (hk:AI Λ k=.lst e g ss xs) (l':Loc) (hn:l'.nil=(θ k).nil) (hb:l'.b=(θ k).b)
  (hr:G1 Λ.length (upd θ k l') (upd (obj Γ Λ) k (.lst e (g+1) ss ys)) σc k (.lst e (g+1) ss ys)):
  ∃ θ',St Γ F vals θ' fr (BJ Λ k (.lst e (g+1) ss ys)) σ σc/\CV (BJ Λ k (.lst e (g+1) ss ys)).length θ' (obj Γ (BJ Λ k (.lst e (g+1) ss ys))) (.ls k (g+1)) (.slice l'.addr ys.length l'.c):=by
 have hlt:k<Λ.length:=Dz (by rw [hk];simp)
 have hob:=BY (Γ:=Γ) hk (by simp)
 have hbl:∀ b,blk (upd θ k l') k (LObj.lst e (g+1) ss ys)=some b->blk θ k (obj Γ Λ k)=some b:=by
  intro b h
  rw [hob]
  simp only [blk,Au,hn,hb] at h ⊢
  exact h
 have ht:=hs.hr.turn (n':=Λ.length) (θ':=upd θ k l') (O':=upd (obj Γ Λ) k (.lst e (g+1) ss ys)) (σ':=σ) (sc':=σc) k (Nat.le_refl _) hlt (fun i hi=>⟨DK _ _ hi,DK _ _ hi⟩) (fun _=>by
   rw [Au]
   exact ⟨(fun _ _ h=>by cases h),fun e' g' ss' xs' h=>by cases h;exact ⟨g,xs,hob,Nat.le_succ _,fun h=>by omega⟩⟩) hs.hr.sub (fun b x h=>⟨rfl,hs.hr.dis b x h⟩) (fun i _ b h=>⟨rfl,(hs.hr.sep i b h).1⟩) (fun _=>by rw [Au];exact hr)
  (fun b h=>by rw [Au] at h;exact hs.hr.own (hbl b h))
 refine ⟨upd θ k l',hs.next ?_ ?_ (by rw [Bd];exact Nat.le_refl _),by rw [Bd];exact hlt,fun e' g' ss' xs' h=>?_⟩
 ·rw [Bd,CQ hlt (by simp)];exact ht.1
 ·rw [CQ hlt (by simp)];exact ht.2
 ·rw [CQ hlt (by simp),Au] at h
  cases h
  exact ⟨Nat.le_refl _,fun _=>by rw [Au]⟩
theorem SO {ss:List Sh} {xs:List (TyR ss)} {k g:Nat} {e:TypeId} {l:Nat} (hl:l<=xs.length) (hr:G1 Λ.length θ (obj Γ Λ) σc k (.lst e g ss xs)) (g':Nat):∃ l':Loc,l'.nil=(θ k).nil/\l'.b=(θ k).b/\l'.addr=(if (θ k).c=l then (θ k).addr else (θ k).addr.map (·.add (l*ss.length)))/\l'.c=(θ k).c-l /\
  ∀ O,G1 Λ.length (upd θ k l') O σc k (.lst e g' ss (xs.drop l)):=by
 have h1:=hr.1
 by_cases hc:(θ k).c=l
 ·refine ⟨{ (θ k) with c:=0 },rfl,rfl,by rw [if_pos hc];rfl,by show 0=_;omega,fun O=>⟨by rw [Au];simp;omega,?_⟩⟩
  rw [Au]
  have h2:=hr.2
  show (match (θ k).nil with | true=>0=0 | false=>_)
  cases hn:(θ k).nil with
  | true=>rfl
  | false=>
   rw [hn] at h2
   obtain ⟨cells,h3,h4,h5⟩:=h2
   refine ⟨cells,h3,by show (θ k).off+0*_<=_;omega,fun i j hi=>?_⟩
   simp at hi
   omega
 ·refine ⟨{ (θ k) with c:=(θ k).c-l,off:=match (θ k).nil with | true=>(θ k).off | false=>(θ k).off+l*ss.length },rfl,rfl,?_,rfl,fun O=>⟨by rw [Au];simp;omega,?_⟩⟩
  ·rw [if_neg hc]
   unfold Loc.addr
   simp only
   cases hn:(θ k).nil with
   | true=>rfl
   | false=>simp only [Option.map_some,Du]
  ·rw [Au]
   have h2:=hr.2
   simp only
   cases hn:(θ k).nil with
   | true=>
    rw [hn] at h2
    simp only at h2 ⊢
    omega
   | false=>
    rw [hn] at h2
    obtain ⟨cells,h3,h4,h5⟩:=h2
    refine ⟨cells,h3,?_,h5.drop l⟩
    have:(θ k).c*ss.length=l*ss.length+((θ k).c-l)*ss.length:=by rw [← Nat.add_mul];congr 1;omega
    simp only
    omega
theorem SG {ss:List Sh} {xs:List (TyR ss)} {k g:Nat} {e:TypeId} (u:Nat) (hr:G1 Λ.length θ (obj Γ Λ) σc k (.lst e g ss xs)) (g':Nat) (O:Nat->LObj):G1 Λ.length θ O σc k (.lst e g' ss (xs.take u)):=by
 refine ⟨by have:=hr.1;simp;omega,?_⟩
 have h2:=hr.2
 cases hn:(θ k).nil with
 | true=>rw [hn] at h2;exact h2
 | false=>
  rw [hn] at h2
  obtain ⟨cells,h3,h4,h5⟩:=h2
  exact ⟨cells,h3,h4,h5.take u⟩
theorem Sc {o:Oper} {t:TypeId} {x:Operand} {lo hi:Option Operand} {p:Prop} (hop:o.op=.slice t x lo hi none) (hs:St Γ F vals θ fr Λ σ σc) (e:UG P h fr Λ σ K t x lo hi=some p) (hp:p):lOp P o (evl vals) σc (Pst Γ F vals h σc K):=by
 unfold lOp
 rw [hop]
 show lY P (.slice t x lo hi none) _ _ _
 have hx:=hs.ev x
 have optv:∀ {y:Option Operand} {ik:IntKind} {l:Int},y.map (mev fr)=some (.v (.int ik l))->y.map (evl vals)=some (.int ik l):=by
  intro y ik l hy
  cases y with
  | none=>cases hy
  | some y=>
   simp only [Option.map_some,Option.some.injEq] at hy
   have:=hs.ev y
   rw [hy] at this
   rw [Option.map_some,(this:evl vals y=_)]
 have optn:∀ {y:Option Operand},y.map (mev fr)=none->y.map (evl vals)=none:=by
  intro y hy
  cases y with
  | none=>rfl
  | some y=>cases hy
 unfold UG at e
 split at e
 ·rename_i k g hm
  split at e
  ·rename_i e1 e' g' ss xs hu hk
   split at e
   ·rename_i ie hie hg
    obtain rfl:=Nat.eq_of_beq_eq_true hg
    split at e
    ·rename_i hsz
     have hsz:=Nat.eq_of_beq_eq_true hsz
     rw [hm] at hx
     have hob:=BY (Γ:=Γ) hk (by simp)
     have hv:=(hx.2 _ _ _ _ hob).2 rfl
     have hreal:=hs.hr.real k
     rw [hob] at hreal
     have hlen:=hreal.1
     simp only [lY,hu,hie,hv]
     split at e
     ·rename_i ik l h1 h2
      cases e
      obtain ⟨h3,h4,hp⟩:=hp
      rw [optv h1,optn h2]
      obtain ⟨l',a1,a2,a3,a4,a5⟩:=SO (l:=l.toNat) (by omega) hreal (g+1)
      obtain ⟨θ',b1,b2⟩:=hs.relist hk l' a1 a2 (a5 _)
      refine ⟨h3,by simpa using h4,Pst.of (fun _=>Hp.Sub.refl _) b1 hp ?_⟩
      rw [a3,a4,List.length_drop] at b2
      rw [hsz]
      exact b2
     ·rename_i ik u h1 h2
      cases e
      obtain ⟨h3,h4,hp⟩:=hp
      rw [optn h1,optv h2]
      obtain ⟨θ',b1,b2⟩:=hs.relist hk (θ k) rfl rfl (ys:=xs.take u.toNat) (by rw [NV _ _ _ rfl];exact SG u.toNat hreal (g+1) _)
      refine ⟨h3,by omega,Pst.of (fun _=>Hp.Sub.refl _) b1 hp ?_⟩
      rw [List.length_take,Nat.min_eq_left (by omega)] at b2
      exact b2
     ·rename_i ik l ik' u h1 h2
      cases e
      obtain ⟨h3,h4,h5,hp⟩:=hp
      rw [optv h1,optv h2]
      obtain ⟨l',a1,a2,a3,a4,a5⟩:=SO (Λ:=Λ) (Γ:=Γ) (l:=l.toNat) (by simp;omega) (SG u.toNat hreal (g+1) (obj Γ Λ)) (g+1)
      obtain ⟨θ',b1,b2⟩:=hs.relist hk l' a1 a2 (a5 _)
      refine ⟨h3,h4,by omega,Pst.of (fun _=>Hp.Sub.refl _) b1 hp ?_⟩
      rw [a3,a4,List.length_drop,List.length_take,Nat.min_eq_left (by omega)] at b2
      rw [hsz]
      exact b2
     ·cases e;exact hp.elim
    ·cases e;exact hp.elim
   ·cases e;exact hp.elim
  ·cases e;exact hp.elim
 ·cases e
theorem Wb:∀ {ss:List Sh} (x:TyR ss),O9 ss=true->∀ v∈BO ss x,Gg v=true:=by
 have h1:∀ (s:Sh) (x:Ty1 s),s≠.any->Gg (Ou s x)=true:=fun s x h=>by cases s<;>first | rfl | exact absurd rfl h
 have hC:∀ (ss:List Sh) (s:Sh) (x:TyC ss s),O9 (s::ss)=true->∀ v∈Mb ss s x,Gg v=true:=by
  intro ss
  induction ss with
  | nil=>
   intro s x hn v hv
   rw [List.mem_singleton.1 hv]
   exact h1 s x (fun e=>by rw [e] at hn;cases hn)
  | cons t ss ih=>
   intro s x hn v hv
   have hs:s≠.any:=fun e=>by rw [e] at hn;cases hn
   have hn':O9 (t::ss)=true:=by cases s<;>first | exact hn | exact absurd rfl hs
   rcases List.mem_cons.1 hv with rfl | hv
   ·exact h1 s x.1 hs
   ·exact ih t x.2 hn' v hv
 intro ss x hn v hv
 cases ss with
 | nil=>cases hv
 | cons s ss=>exact hC ss s x hn v hv
theorem X2 {ss:List Sh} (hn:O9 ss=true) (xs:List (TyR ss)):∀ v∈CN ss xs,Gg v=true:=fun v hv=>by
 obtain ⟨x,_,hx⟩:=List.mem_flatMap.1 hv
 exact Wb x hn v hx
theorem Uh {ss:List Sh} {σ:Hp} {b off:Nat} {cells:Array Value} {e:TypeId} {f:Nat×Nat} {rw:Bool} {xs:List (TyR ss)} (hb:σ b=some (.cells cells e f,rw)) (hr:Row cells off ss xs):RdC σ (some ⟨b,off,none⟩) (CN ss xs):=
 .inr ⟨b,off,rfl,fun i v hv=>by
  have hlt:i<xs.length*ss.length:=by
   rw [← BL]
   rcases Nat.lt_or_ge i (CN ss xs).length with h | h
   ·exact h
   ·rw [List.getElem?_eq_none h] at hv;cases hv
  exact PV hb (by rw [hr.to_flat i hlt];exact hv)⟩
theorem RdS.rdC {ss:List Sh} {σ:Hp} {A:aA} {n:Nat} {xs:List (TyR ss)} (h:RdS ss σ A n xs):RdC σ A (CN ss xs)/\(A=none->CN ss xs=[]):=by
 obtain ⟨rfl,h⟩:=h
 rcases h with h | ⟨b,off,cells,e,f,rw,rfl,hb,hr⟩
 ·have:xs=[]:=List.length_eq_zero_iff.1 h
  subst this
  exact ⟨.inl rfl,fun _=>rfl⟩
 ·exact ⟨Uh hb hr,fun h=>by cases h⟩
theorem PZ {ss:List Sh} {k:Nat} {y:Operand} {Q:List (TyR ss)->Prop} (hs:St Γ F vals θ fr Λ σ σc) (hp:Ue fr Γ Λ σ ss k (mev fr y) Q):
  ∃ ys A c,Q ys/\evl vals y=.slice A ys.length c/\RdC σc A (CN ss ys)/\(A=none->CN ss ys=[]):=by
 have hy:=hs.ev y
 unfold Ue at hp
 split at hp
 ·rename_i k2 g2 hm
  split at hp<;>first | exact hp.elim | skip
  rename_i e' g' s2 ys hk
  split at hp<;>first | exact hp.elim | skip
  rename_i hg _
  obtain rfl:=Nat.eq_of_beq_eq_true hg
  split at hp<;>first | exact hp.elim | skip
  rename_i zs hc
  have hz:∃ h:s2=ss,zs=h▸ys:=by
   unfold RD at hc
   split at hc
   ·rename_i h
    exact ⟨MX h,by cases hc;rfl⟩
   ·cases hc
  obtain ⟨hsh,hzs⟩:=hz
  subst hsh
  have hzs:zs=ys:=hzs
  subst hzs
  rw [hm] at hy
  have hv:=(hy.2 _ _ _ _ hk).2 rfl
  have hr:=hs.hr.real k2
  rw [hk] at hr
  cases hn:(θ k2).nil with
  | true=>
   have h2:=hr.2
   rw [hn] at h2
   have h1:=hr.1
   have:zs=[]:=List.length_eq_zero_iff.1 (by omega)
   subst this
   exact ⟨[],_,_,hp,hv,.inl rfl,fun _=>rfl⟩
  | false=>
   have h2:=hr.2
   rw [hn] at h2
   obtain ⟨cells,h3,h4,h5⟩:=h2
   have haddr:(θ k2).addr=some ⟨(θ k2).b,(θ k2).off,none⟩:=by unfold Loc.addr;rw [hn]
   rw [haddr] at hv
   exact ⟨zs,_,_,hp,hv,Uh h3 h5,fun h=>by cases h⟩
 ·rename_i A n c hm
  rw [hm] at hy
  obtain ⟨ys,hr,hp⟩:=hp
  obtain ⟨h1,h2⟩:=(hr.sub hs.hr.sub).rdC
  have h3:=hr.1
  subst h3
  exact ⟨ys,A,c,hp,hy,h1,h2⟩
 ·exact hp.elim
theorem St.adopt (hs:St Γ F vals θ fr Λ σ σc) {e:TypeId} {ss:List Sh} {A:aA} {n c:Nat} {xs:List (TyR ss)} {σ':Hp} (ho:Ak e ss σ' A n c xs σ):
  ∃ θ',St Γ F vals θ' fr (Λ++[.lst e 0 ss xs]) σ' σc/\CV (Λ++[LObj.lst e 0 ss xs]).length θ' (obj Γ (Λ++[.lst e 0 ss xs])) (.ls Λ.length 0) (.slice A n c):=by
 rcases ho with ⟨rfl,rfl,rfl,rfl,rfl⟩ | ⟨b,off,cells,rfl,rfl,hn,hb,rfl,hsz,hrow⟩
 ·exact hs.push_empty e ss
 ·have el:(Λ++[LObj.lst e 0 ss xs]).length=Λ.length+1:=by simp
  obtain ⟨h1,h2⟩:=hs.hr.take hb ⟨false,b,off,c⟩ (.lst e 0 ss xs) (fun b' hb'=>by
   simp only [blk,Au,Option.some.injEq] at hb';exact hb'.symm) (fun hx _=>⟨by rw [Au];exact hn,by rw [Au];exact ⟨cells,hx,hsz,hrow⟩⟩)
  refine ⟨_,hs.next (by rw [el,BD (by simp)];exact h1) (by rw [BD (by simp)];exact h2) (by omega),by simp,fun e' g' ss' xs' h=>?_⟩
  rw [BD (by simp),Au] at h
  cases h
  exact ⟨Nat.le_refl _,fun _=>by rw [Au];rfl⟩
theorem O3 {t u ty et:TypeId} {ie:TypeInfo} {z:Value} {d:TypeDesc} {k g:Nat} {ss:List Sh} {xs ys:List (TyR ss)} {ux:Value} {A2:aA} {c2:Nat}
  (hu:P.underlying t=some (.slice et)) (hd:P.underlying u=some d) (hdi:∀ k,d≠.int k) (hie:P.info? et=some ie) (hz:ie.zero=some z) (hbytes:ie.bytes<=4096) (hzs:z.cells.size=ie.size)
  (hs:St Γ F vals θ fr Λ σ σc) (hk:AI Λ k=.lst et g ss xs) (hx:CV Λ.length θ (obj Γ Λ) (.ls k g) ux) (hsz:ie.size=ss.length) (hna:O9 ss=true) (hroom:xs.length+ys.length<=4294967296)
  (hrd:RdC σc A2 (CN ss ys)) (hrn:A2=none->CN ss ys=[]) (hp:K (.ls k (g+1)) fr (BJ Λ k (.lst et (g+1) ss (xs++ys))) σ):
  swp P (Builtin.append_ #[t,u] ty #[ux,.slice A2 ys.length c2]) (fun v σ'=>∃ A n c,v=.slice A n c/\Pst Γ F vals false σc K (.slice A n c) σ') σc:=by
 have hlt:k<Λ.length:=hx.1
 have hob:=BY (Γ:=Γ) hk (by simp)
 have hxv:=(hx.2 _ _ _ _ hob).2 rfl
 have hreal:=hs.hr.real k
 rw [hob] at hreal
 rw [hxv]
 have hold:RdC σc (θ k).addr (CN ss xs)/\((θ k).addr=none->CN ss xs=[]):=by
  cases hn:(θ k).nil with
  | true=>
   have h2:=hreal.2
   rw [hn] at h2
   have h1:=hreal.1
   have:xs=[]:=List.length_eq_zero_iff.1 (by omega)
   rw [this]
   exact ⟨.inl rfl,fun _=>rfl⟩
  | false=>
   have h2:=hreal.2
   rw [hn] at h2
   obtain ⟨cells,h3,h4,h5⟩:=h2
   have:(θ k).addr=some ⟨(θ k).b,(θ k).off,none⟩:=by unfold Loc.addr;rw [hn]
   rw [this]
   exact ⟨Uh h3 h5,fun h=>by cases h⟩
 have hlt':(BJ Λ k (.lst et (g+1) ss (xs++ys))).length=Λ.length:=Bd _ _ _
 have hO:obj Γ (BJ Λ k (.lst et (g+1) ss (xs++ys)))=upd (obj Γ Λ) k (.lst et (g+1) ss (xs++ys)):=CQ hlt (by simp)
 refine UH hu hd hdi hie hz hbytes hroom hold.1 (by rw [BL,hsz]) hold.2 hrd (by rw [BL,hsz]) hrn ?_ ?_ ?_ ?_
 ·intro a ha
  unfold Loc.addr at ha
  split at ha<;>cases ha
  rfl
 ·intro hcap haddr
  have hn:(θ k).nil=true:=by
   unfold Loc.addr at haddr
   split at haddr
   ·assumption
   ·cases haddr
  have h2:=hreal.2
  rw [hn] at h2
  obtain ⟨θ',b1,b2⟩:=hs.relist hk (θ k) rfl rfl (ys:=xs++ys) ⟨by rw [Au];simpa using hcap,by rw [Au,hn];exact h2⟩
  rw [haddr,List.length_append] at b2
  exact ⟨_,_,_,rfl,Pst.of (fun _=>Hp.Sub.refl _) b1 hp b2⟩
 ·intro hcap b off haddr
  have hn:(θ k).nil=false:=by
   unfold Loc.addr at haddr
   split at haddr
   ·cases haddr
   ·assumption
  have haddr':(θ k).addr=some ⟨(θ k).b,(θ k).off,none⟩:=by unfold Loc.addr;rw [hn]
  rw [haddr'] at haddr
  cases haddr
  have h2:=hreal.2
  rw [hn] at h2
  obtain ⟨cells,h3,h4,h5⟩:=h2
  have hsp:(θ k).off+xs.length*ss.length+ys.length*ss.length<=cells.size:=by
   have:(xs.length+ys.length)*ss.length<=(θ k).c*ss.length:=Nat.mul_le_mul_right _ hcap
   rw [Nat.add_mul] at this
   omega
  refine Sz _ 0 cells σc h3 (X2 hna ys) (by rw [BL,hsz];omega) ?_
  intro c' σ' w1 w2 w3 w4 w5 w6
  rw [hsz] at w2 w3 w4
  have hrow:Row c' (θ k).off ss (xs++ys):=Row.of_flat fun i hi=>by
   rw [List.length_append,Nat.add_mul] at hi
   rw [Pa]
   by_cases hlt:i<xs.length*ss.length
   ·rw [w2 _ (by omega),List.getElem?_append_left (by rw [BL];exact hlt)]
    exact h5.to_flat i hlt
   ·rw [List.getElem?_append_right (by rw [BL];omega),BL]
    have:=w4 (i-xs.length*ss.length) (by rw [BL];omega)
    rw [← this]
    congr 1
    omega
  obtain ⟨t1,t2⟩:=hs.hr.write (θ':=θ) (sc':=σ') (k:=k) hlt (b:=(θ k).b) (by
   rw [hob]
   show (match (θ k).nil with | true=>none | false=>some (θ k).b)=_
   rw [hn]) (.lst et (g+1) ss (xs++ys)) (fun b' hb'=>by
   simp only [blk,hn,Option.some.injEq] at hb'
   exact hb'.symm) (fun _ _=>rfl) ⟨(fun _ _ h=>by cases h),(fun e' g' ss' xs' h=>by cases h;exact ⟨g,xs,hob,Nat.le_succ _,fun h=>by omega⟩)⟩ (fun c hc=>w6 c hc)
   (fun _=>⟨by simpa using hcap,by rw [hn];exact ⟨c',w5,by rw [w1];exact h4,hrow⟩⟩)
  refine ⟨_,_,_,rfl,Pst.of (θ':=θ) (fun hh=>by cases hh) (hs.next (by rw [hlt',hO];exact t1) (by rw [hO];exact t2) (by rw [hlt'];exact Nat.le_refl _)) hp ⟨by rw [hlt'];exact hlt,fun e' g' ss' xs' h=>?_⟩⟩
  rw [hO,Au] at h
  cases h
  exact ⟨Nat.le_refl _,fun _=>by rw [haddr',List.length_append]⟩
 ·intro hcap newCap b hge hb
  have hcl:∀ N,(Builtin.zeroCells z.cells N).size=N*ss.length:=fun N=>by simp [Builtin.zeroCells,hzs,hsz]
  have hrow:Row ((CN ss xs).toArray++(CN ss ys).toArray++Builtin.zeroCells z.cells (newCap-(xs.length+ys.length))) 0 ss (xs++ys):=by
   have:((CN ss xs).toArray++(CN ss ys).toArray++Builtin.zeroCells z.cells (newCap-(xs.length+ys.length)):Array Value)=⟨CN ss (xs++ys)++(Builtin.zeroCells z.cells (newCap-(xs.length+ys.length))).toList⟩:=by
    rw [← Array.toList_inj,Pa]
    simp
   rw [this]
   exact TR
  obtain ⟨f1,f2,f3⟩:=hs.hr.fresh hb
  obtain ⟨t1,t2⟩:=hs.hr.turn (n':=Λ.length) (θ':=upd θ k ⟨false,b,0,newCap⟩) (O':=upd (obj Γ Λ) k (.lst et (g+1) ss (xs++ys))) (σ':=σ) (sc':=σc.ins b (.cells ((CN ss xs).toArray++(CN ss ys).toArray++Builtin.zeroCells z.cells (newCap-(xs.length+ys.length))) et)) k (Nat.le_refl _) hlt (fun i hi=>⟨DK _ _ hi,DK _ _ hi⟩) (fun _=>by
    rw [Au]
    exact ⟨(fun _ _ h=>by cases h),fun e' g' ss' xs' h=>by cases h;exact ⟨g,xs,hob,Nat.le_succ _,fun h=>by omega⟩⟩) (hs.hr.sub.ins_r f1 _) (fun c x h=>⟨Hp.ins_ne _ (fun ec=>by rw [ec,f2] at h;cases h),hs.hr.dis c x h⟩) (fun i _ c h=>⟨Hp.ins_ne _ (fun ec=>f3 i (by rw [← ec];exact h)),(hs.hr.sep i c h).1⟩) (fun _=>by
    rw [Au]
    refine ⟨by rw [Au];simpa using hge,?_⟩
    rw [Au]
    refine ⟨_,Hp.ins_same _ _ _,?_,hrow⟩
    simp only [Array.size_append,hcl,List.size_toArray,BL]
    have h2:newCap=xs.length+ys.length+(newCap-(xs.length+ys.length)):=by omega
    have h3:newCap*ss.length=xs.length*ss.length+ys.length*ss.length+(newCap-(xs.length+ys.length))*ss.length:=by rw [← Nat.add_mul,← Nat.add_mul,← h2]
    omega) (fun c h=>by
    simp only [Au,blk,Option.some.injEq] at h
    subst h
    exact ⟨f1,f2,fun i _=>f3 i⟩)
  refine ⟨_,_,_,rfl,Pst.of (θ':=upd θ k ⟨false,b,0,newCap⟩) (fun hh=>by cases hh) (hs.next (by rw [hlt',hO];exact t1) (by rw [hO];exact t2) (by rw [hlt'];exact Nat.le_refl _)) hp ⟨by rw [hlt'];exact hlt,fun e' g' ss' xs' h=>?_⟩⟩
  rw [hO,Au] at h
  cases h
  exact ⟨Nat.le_refl _,fun _=>by rw [Au,List.length_append];rfl⟩
theorem Rg:∀ (l:List LObj) (a b:LObj),BJ (l++[a]) l.length b=l++[b]
 | [],_,_=>rfl
 | x::l,a,b=>by simp [BJ,Rg l a b]
theorem Wr {ss:List Sh} {y:MV} {Q:List (TyR ss)->Prop} {o:LObj} (hp:Ue fr Γ Λ σ ss Λ.length y Q):Ue fr Γ (Λ++[o]) σ ss Λ.length y Q:=by
 unfold Ue at hp ⊢
 split at hp
 ·rename_i k2 g2
  have hne:Nat.beq Λ.length k2=false->obj Γ (Λ++[o]) k2=obj Γ Λ k2:=by
   intro h
   have hne:=Nat.ne_of_beq_eq_false h
   unfold obj
   rw [D1]
   by_cases h1:k2<Λ.length
   ·rw [if_pos h1]
   ·rw [if_neg h1]
    have e1:AI [o] (k2-Λ.length)=.gone:=EB (by simp;omega)
    have e2:AI Λ k2=.gone:=EB (by omega)
    rw [e1,e2]
  split at hp<;>first | exact hp.elim | skip
  rename_i e' g' s2 ys hk
  cases hb:Nat.beq Λ.length k2 with
  | true=>rw [hb] at hp;cases hg:Nat.beq g2 g'<;>rw [hg] at hp<;>exact hp.elim
  | false=>
   rw [hne hb,hk]
   rw [hb] at hp
   exact hp
 ·exact hp
 ·exact hp.elim
theorem Q4 {o:Oper} {args:Array Operand} {ts:Array TypeId} {p:Prop} (hop:o.op=.call ⟨.builtin .append,args,ts⟩) (hs:St Γ F vals θ fr Λ σ σc) (e:R3 P h fr Γ Λ σ K args.toList ts.toList=some p) (hp:p):lOp P o (evl vals) σc (Pst Γ F vals h σc K):=by
 unfold lOp
 rw [hop]
 show lE P o (evl vals) σc _
 unfold lE
 rw [hop]
 simp only
 unfold R3 at e
 split at e<;>first | (cases e;done) | skip
 rename_i x y t u hargs hts
 split at e<;>first | (cases e;done) | skip
 rename_i et hu hni
 split at e<;>first | (cases e;done) | skip
 rename_i ie hie
 split at e<;>first | (cases e;done) | skip
 rename_i z hz
 split at e<;>first | (cases e;done) | skip
 rename_i hbytes hzs FR
 have hbytes:=Nat.le_of_ble_eq_true hbytes
 have hzs:=Nat.eq_of_beq_eq_true hzs
 obtain ⟨d,hd,hdi⟩:∃ d,P.underlying u=some d/\∀ k,d≠.int k:=by
  cases hdu:P.underlying u with
  | none=>rw [hdu] at hni;cases hni
  | some d=>exact ⟨d,rfl,fun k hk=>by rw [hdu,hk] at hni;cases hni⟩
 have ha:C1 (evl vals) args=#[evl vals x,evl vals y]:=by
  unfold C1
  rw [hargs]
  rfl
 have ht:ts=#[t,u]:=by
  rw [← Array.toList_inj,hts]
 rw [ha,ht]
 have hx:=hs.ev x
 split at e
 ·rename_i k g hm
  split at e
  ·rename_i e' g' ss xs hk
   split at e
   ·rename_i hg hee hsz
    obtain rfl:=Nat.eq_of_beq_eq_true hg
    obtain rfl:=Nat.eq_of_beq_eq_true hee
    simp only [Bool.and_eq_true] at hsz
    obtain ⟨hsz,hna⟩:=hsz
    have hsz:=Nat.eq_of_beq_eq_true hsz
    cases e
    obtain ⟨ys,A2,c2,⟨hroom,hp⟩,hyv,hrd,hrn⟩:=PZ hs hp
    rw [hm] at hx
    rw [hyv]
    exact O3 hu hd hdi hie hz hbytes hzs hs hk hx hsz hna hroom hrd hrn hp
   ·cases e;exact hp.elim
  ·cases e;exact hp.elim
 ·rename_i A n c hm
  split at e
  ·rename_i hsz
   simp only [Bool.and_eq_true] at hsz
   obtain ⟨hsz,hna⟩:=hsz
   have hsz:=Nat.eq_of_beq_eq_true hsz
   cases e
   obtain ⟨xs,σ',ho,hp⟩:=hp
   rw [hm] at hx
   have hx:evl vals x=.slice A n c:=hx
   obtain ⟨θ',a1,a2⟩:=hs.adopt ho
   obtain ⟨ys,A2,c2,⟨hroom,hp⟩,hyv,hrd,hrn⟩:=PZ a1 (Wr hp)
   rw [hx,hyv]
   have hk:AI (Λ++[LObj.lst et 0 (Bi P 8 et) xs]) Λ.length=.lst et 0 (Bi P 8 et) xs:=by
    rw [D1,if_neg (Nat.lt_irrefl _),Nat.sub_self]
    rfl
   refine O3 hu hd hdi hie hz hbytes hzs a1 hk a2 hsz hna hroom hrd hrn ?_
   rw [Rg]
   exact hp
  ·cases e;exact hp.elim
 ·cases e
end
end Go.Proofs.YtoelhdjloaknbaaGreat
