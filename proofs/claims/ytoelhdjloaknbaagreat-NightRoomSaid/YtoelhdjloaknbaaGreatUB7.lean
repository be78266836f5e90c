/- What this claim rests on. -/
import Derived.Test.YtoelhdjloaknbaaGreatUB6
namespace Go.Proofs.YtoelhdjloaknbaaGreat
open Go.RowKit
section
variable {P:Program} {Γ:List LObj} {F:Hp} {nt:Nat}
def Qs (n:Nat) (ops:Array Oper):Bool:=ops.toList.all fun o=>match o.dst with
 | some d=>Nat.blt d n
 | none=>true
theorem Hi {n:Nat} {ops:Array Oper} {i:Nat} {o:Oper} (h:Qs n ops=true) (ho:ops[i]? = some o):∀ t,o.dst=some t->t<n:=by
 intro t ht
 have:=List.all_eq_true.1 h o (by simpa using Array.mem_of_getElem? ho)
 rw [ht] at this
 simpa using this
def U8 (ops:Array Oper):Nat->List Oper->List OA->Bool
 | _,[],_=>true
 | i,_::os,ns=>eqB (ns.headD ⟨[],false,[]⟩).g (isG ops i)&&U8 ops (i+1) os ns.tail
theorem Wk {ops:Array Oper} {Q:MFr->List LObj->Hp->Prop} (hd:Qs nt ops=true):∀ (os:List Oper) (ns:List OA) (i:Nat) (θ:Nat->Loc) (fr:MFr) (Λ:List LObj) (σ:Hp) (a:Act) (σc:Hp),
  os=ops.toList.drop i->U8 ops i os ns=true->AaY P Γ ops.toList os ns Q fr Λ σ->MR nt Γ F θ fr Λ σ a σc->Wh P ops (MK nt Γ F Q) ((List.range ops.size).drop i) a σc:=by
 intro os
 induction os with
 | nil=>
  intro ns i θ fr Λ σ a σc he _ h hr
  have:ops.size<=i:=by
   have:=congrArg List.length he
   simp at this
   omega
  rw [List.drop_eq_nil_of_le (by simpa using this)]
  exact ⟨θ,fr,Λ,σ,hr,h⟩
 | cons o os ih=>
  intro ns i θ fr Λ σ a σc he hg h hr
  have hlt:i<ops.size:=by
   have:=congrArg List.length he
   simp at this
   omega
  have ho:ops[i]? = some o:=by
   have:=congrArg (·[0]?) he
   simpa using this.symm
  have hos:os=ops.toList.drop (i+1):=by
   have:=congrArg List.tail he
   simpa using this
  rw [List.drop_eq_getElem_cons (by simpa using hlt)]
  simp only [List.getElem_range]
  simp only [U8,Bool.and_eq_true] at hg
  show B9 P ops i _ a σc
  unfold B9
  rw [ho]
  have hst:=Lu (Hi hd ho) hg.1 hr h
  split at hst
  ·rename_i hw
   simp only [hw]
   refine FA (fun v σ' hv=>Ib (fun u hu=>?_) hv) hst
   obtain ⟨_,θ',fr',Λ',s'',hr',hq⟩:=hu
   exact ih _ _ _ _ _ _ _ _ hos hg.2 hq hr'
  ·rename_i hw
   simp only [hw]
   obtain ⟨θ',fr',Λ',s'',hr',hq⟩:=hst
   exact ih _ _ _ _ _ _ _ _ hos hg.2 hq hr'
theorem Aap {o:Oper} {ρ:Operand->Value} {σ:Hp} {K:Value->Hp->Prop} (hy:Hm o.op=true) (h:lOp P o ρ σ K):lY P o.op ρ σ fun v=>K v σ:=by
 unfold lOp at h
 rw [hy] at h
 exact h
theorem Sv:∀ p:MPlan,p.plan.isDone=p.isDone
 | .done=>rfl
 | .take ..=>rfl
 | .new ..=>rfl
 | .alt ..=>rfl
theorem Uo {ops:Array Oper} {mm:List Nat} {i:Nat} {g h:Bool} {p more:Mn} {top:Bool} {fuel:Nat} {L:List Bool} (hok:Bj ops mm (.alt i g h p more) top fuel L=true):
  eqB g (isG ops i)=true/\(∃ fuel' L',Bj ops mm p true fuel' L'=true)/\Bj ops mm more false fuel L=true:=by
 cases fuel with
 | zero=>simp [Bj] at hok
 | succ fuel=>
  simp only [Bj,Bool.and_eq_true,La] at hok
  exact ⟨hok.1.1.1.2,⟨_,_,hok.1.2⟩,hok.2⟩
theorem Sd {ops:Array Oper} {mm:List Nat} {Q:MFr->List LObj->Hp->Prop} (hd:Qs nt ops=true):∀ (pl:MPlan) (top:Bool) (fuel:Nat) (L:List Bool) (θ:Nat->Loc) (fr:MFr) (Λ:List LObj) (σ:Hp) (a:Act) (σc:Hp),
  Bj ops mm pl.plan top fuel L=true->JC P Γ ops.toList pl Q fr Λ σ->MR nt Γ F θ fr Λ σ a σc->CE P ops pl.plan (MK nt Γ F Q) a σc:=by
 intro pl
 induction pl with
 | done=>intro top fuel L θ fr Λ σ a σc hok h hr;exact ⟨θ,fr,Λ,σ,hr,h⟩
 | take i an p ih=>
  intro top fuel L θ fr Λ σ a σc hok h hr
  simp only [MPlan.plan] at hok
  cases top with
  | false=>simp [Bj] at hok
  | true=>
  cases fuel with
  | zero=>simp [Bj] at hok
  | succ fuel=>
   simp only [Bj,Bool.and_eq_true,La] at hok
   simp only [JC,Eu] at h
   simp only [MPlan.plan,CE]
   split at h<;>first | exact h.elim | skip
   rename_i o ho
   have hy:Hm o.op=true:=by
    have:=hok.1.1.1.1
    rw [Eu,ho] at this
    simp only [Bool.and_eq_true] at this
    exact this.1.1
   have hst:=Lu (Hi hd ho) hok.1.2 hr h
   split at hst
   ·rename_i hw
    simp only [ho,hw]
    refine IT (fun v hv=>Ib (fun u hu=>?_) hv) (Aap hy hst)
    obtain ⟨_,θ',fr',Λ',s'',hr',hq⟩:=hu
    exact ih _ _ _ _ _ _ _ _ _ hok.2 hq hr'
   ·rename_i hw
    simp only [ho,hw]
    obtain ⟨θ',fr',Λ',s'',hr',hq⟩:=hst
    exact ih _ _ _ _ _ _ _ _ _ hok.2 hq hr'
 | new i an p ih=>
  intro top fuel L θ fr Λ σ a σc hok h hr
  simp only [MPlan.plan] at hok
  cases top with
  | false=>simp [Bj] at hok
  | true=>
  cases fuel with
  | zero=>simp [Bj] at hok
  | succ fuel=>
   simp only [Bj,Bool.and_eq_true,La] at hok
   simp only [JC,Eu] at h
   simp only [MPlan.plan,CE]
   split at h<;>first | exact h.elim | skip
   rename_i o ho
   unfold B9
   rw [ho]
   have hst:=Lu (Hi hd ho) hok.1.2 hr h
   split at hst
   ·rename_i hw
    simp only [hw]
    refine FA (fun v σ' hv=>Ib (fun u hu=>?_) hv) hst
    obtain ⟨_,θ',fr',Λ',s'',hr',hq⟩:=hu
    exact ih _ _ _ _ _ _ _ _ _ hok.2 hq hr'
   ·rename_i hw
    simp only [hw]
    obtain ⟨θ',fr',Λ',s'',hr',hq⟩:=hst
    exact ih _ _ _ _ _ _ _ _ _ hok.2 hq hr'
 | alt i hh an p more ihp ihm=>
  intro top fuel L θ fr Λ σ a σc hok h hr
  simp only [MPlan.plan] at hok
  obtain ⟨hg,⟨fuel',L',hp⟩,hm⟩:=Uo hok
  simp only [MPlan.plan,CE]
  simp only [JC,Eu] at h
  have hst:∃ o,ops[i]? = some o/\O8 P Γ ops.toList hh an o (JC P Γ ops.toList p Q) fr Λ σ/\(more.isDone=false->JC P Γ ops.toList more Q fr Λ σ):=by
   split at h
   ·rename_i o e ed;exact ⟨o,e,h,fun e'=>by rw [ed] at e';cases e'⟩
   ·rename_i o e ed;exact ⟨o,e,h.1,fun _=>h.2⟩
   ·exact h.elim
  obtain ⟨o,ho,h1,h2⟩:=hst
  refine ⟨?_,fun e=>ihm _ _ _ _ _ _ _ _ _ hm (h2 (by rw [← Sv];exact e)) hr⟩
  unfold B9
  rw [ho]
  have hst:=Lu (Hi hd ho) hg hr h1
  split at hst
  ·rename_i hw
   simp only [hw]
   refine FA (fun v σ' hv=>Ib (fun u hu=>?_) hv) hst
   obtain ⟨hsub,θ',fr',Λ',s'',hr',hq⟩:=hu
   exact ⟨hsub,ihp _ _ _ _ _ _ _ _ _ hp hq hr'⟩
  ·rename_i hw
   simp only [hw]
   obtain ⟨θ',fr',Λ',s'',hr',hq⟩:=hst
   exact ⟨fun _=>Hp.Sub.refl _,ihp _ _ _ _ _ _ _ _ _ hp hq hr'⟩
end
inductive PSh where
 | sc (s:Sh)
 | lst (k:Nat) (e:TypeId) (ss:List Sh)
 | hl (k g:Nat)
 | hb (k off:Nat)
inductive It where
 | slot (t:Nat) (p:PSh)
 | modb (k:Nat) (e:TypeId) (ps:List PSh)
 | modl (k g:Nat) (e:TypeId) (ss:List Sh)
structure MSp where
 kept:List Bool
 pad:Nat
 its:List It
 keep:List (Nat×Bool)
def TyP:PSh->Type->Type
 | .sc .bool,T=>Bool->T
 | .sc (.int _),T=>Int->T
 | .sc .str,T=>ByteArray->T
 | .sc .ptr,T=>aA->T
 | .sc .slc,T=>aA->Nat->Nat->T
 | .sc .mp,T=>Option Nat->T
 | .sc .any,T=>Value->T
 | .lst _ _ ss,T=>List (TyR ss)->T
 | .hl _ _,T=>T
 | .hb _ _,T=>T
def Uj:List PSh->Type->Type
 | [],T=>T
 | p::ps,T=>TyP p (Uj ps T)
def TyI:List It->Type
 | []=>Hp->Prop
 | .slot _ p::l=>TyP p (TyI l)
 | .modb _ _ ps::l=>Uj ps (TyI l)
 | .modl _ _ _ ss::l=>List (TyR ss)->TyI l
def AaK {T:Type}:(p:PSh)->List LObj->(MC->List LObj->T)->TyP p T
 | .sc .bool,L,k=>fun x=>k (.v (.bool x)) L
 | .sc (.int ik),L,k=>fun x=>k (.v (.int ik x)) L
 | .sc .str,L,k=>fun x=>k (.v (.string x)) L
 | .sc .ptr,L,k=>fun x=>k (.v (.pointer x)) L
 | .sc .slc,L,k=>fun A n c=>k (.v (.slice A n c)) L
 | .sc .mp,L,k=>fun x=>k (.v (.map x)) L
 | .sc .any,L,k=>fun x=>k (.v x) L
 | .lst t e ss,L,k=>fun xs=>k (.ls t 0) (BJ L t (.lst e 0 ss xs))
 | .hl a g,L,k=>k (.ls a g) L
 | .hb a o,L,k=>k (.bx a o) L
def WZ {T:Type}:(ps:List PSh)->List MC->List LObj->(List MC->List LObj->T)->Uj ps T
 | [],ms,L,k=>k ms L
 | p::ps,ms,L,k=>AaK p L fun m L=>WZ ps (ms++[m]) L k
def Xw:(its:List It)->(MFr->MFr)->List LObj->((MFr->MFr)->List LObj->Hp->Prop)->TyI its
 | [],G,L,k=>k G L
 | .slot t p::l,G,L,k=>AaK p L fun m L=>Xw l (fun fr=>.cons t (toMV m) (G fr)) L k
 | .modb i e ps::l,G,L,k=>WZ ps [] L fun ms L=>Xw l G (BJ L i (.box e ms)) k
 | .modl i g e ss::l,G,L,k=>fun xs=>Xw l G (BJ L i (.lst e g ss xs)) k
def Aak {T:Type}:(p:PSh)->List LObj->TyP p T->(MC->List LObj->T->Prop)->Prop
 | .sc .bool,L,j,k=>∀ x,k (.v (.bool x)) L (j x)
 | .sc (.int ik),L,j,k=>∀ x,k (.v (.int ik x)) L (j x)
 | .sc .str,L,j,k=>∀ x,k (.v (.string x)) L (j x)
 | .sc .ptr,L,j,k=>∀ x,k (.v (.pointer x)) L (j x)
 | .sc .slc,L,j,k=>∀ A n c,k (.v (.slice A n c)) L (j A n c)
 | .sc .mp,L,j,k=>∀ x,k (.v (.map x)) L (j x)
 | .sc .any,L,j,k=>∀ x,k (.v x) L (j x)
 | .lst t e ss,L,j,k=>∀ xs:List (TyR ss),k (.ls t 0) (BJ L t (.lst e 0 ss xs)) (j xs)
 | .hl a g,L,j,k=>k (.ls a g) L j
 | .hb a o,L,j,k=>k (.bx a o) L j
def Xh {T:Type}:(ps:List PSh)->List MC->List LObj->Uj ps T->(List MC->List LObj->T->Prop)->Prop
 | [],ms,L,j,k=>k ms L j
 | p::ps,ms,L,j,k=>Aak p L j fun m L j=>Xh ps (ms++[m]) L j k
def Ym:(its:List It)->(MFr->MFr)->List LObj->TyI its->((MFr->MFr)->List LObj->Hp->Prop)->Prop
 | [],G,L,j,k=>∀ σ,j σ->k G L σ
 | .slot t p::l,G,L,j,k=>Aak p L j fun m L j=>Ym l (fun fr=>.cons t (toMV m) (G fr)) L j k
 | .modb i e ps::l,G,L,j,k=>Xh ps [] L j fun ms L j=>Ym l G (BJ L i (.box e ms)) j k
 | .modl i g e ss::l,G,L,j,k=>∀ xs:List (TyR ss),Ym l G (BJ L i (.lst e g ss xs)) (j xs) k
def TZ {T:Type}:(s:Sh)->Value->TyP (.sc s) T->(T->Prop)->Prop
 | .bool,v,j,k=>match v with
  | .bool x=>k (j x)
  | _=>False
 | .int ik,v,j,k=>match v with
  | .int ik' n=>match QH ik ik' with
   | true=>k (j n)
   | false=>False
  | _=>False
 | .str,v,j,k=>match v with
  | .string x=>k (j x)
  | _=>False
 | .ptr,v,j,k=>match v with
  | .pointer x=>k (j x)
  | _=>False
 | .slc,v,j,k=>match v with
  | .slice A n c=>k (j A n c)
  | _=>False
 | .mp,v,j,k=>match v with
  | .map x=>k (j x)
  | _=>False
 | .any,v,j,k=>k (j v)
abbrev Src:=List (Nat×Nat×Nat)
def B4:Src->Nat->Option (Nat×Nat)
 | [],_=>none
 | (k,a,g)::l,t=>match Nat.beq k t with
  | true=>some (a,g)
  | false=>B4 l t
def Ec (l:List Nat) (i:Nat):Bool:=match l with
 | []=>false
 | j::l=>match Nat.beq j i with
  | true=>true
  | false=>Ec l i
def tgP:PSh->List Nat
 | .lst k _ _=>[k]
 | _=>[]
def AaF:List PSh->List Nat
 | []=>[]
 | p::ps=>tgP p++AaF ps
def tgI:List It->List Nat
 | []=>[]
 | .slot _ p::l=>tgP p++tgI l
 | .modb _ _ ps::l=>AaF ps++tgI l
 | .modl ..::l=>tgI l
def UX {T:Type} (tg:List Nat) (pad:Nat):(p:PSh)->MV->TyP p T->Src->MFr->List LObj->Hp->(T->Src->MFr->List LObj->Hp->Prop)->Prop
 | .sc s,m,j,S,fr,Λ,σ,k=>match m with
  | .v x=>TZ s x j fun t=>k t S fr Λ σ
  | m=>Fa 12 [m] fr Λ σ fun vs fr Λ σ=>match vs with
   | [x]=>TZ s x j fun t=>k t S fr Λ σ
   | _=>False
 | .lst t e ss,m,j,S,fr,Λ,σ,k=>match Nat.blt t pad,B4 S t with
  | true,none=>match m with
   | .ls a g=>match AI Λ a with
    | .lst e' g' s' xs=>match Nat.beq g g',Nat.beq e e',RD s' ss xs with
     | true,true,some ys=>k (j ys) ((t,a,g)::S) fr Λ σ
     | _,_,_=>False
    | _=>False
   | .v (.slice A n c)=>adp e ss A n c σ fun xs σ'=>k (j xs) ((t,Λ.length,0)::S) fr (Λ++[.lst e 0 ss xs]) σ'
   | _=>False
  | _,_=>False
 | .hl a g,m,j,S,fr,Λ,σ,k=>match m with
  | .ls a' g'=>match Nat.beq a a',Nat.beq g g',Ec tg a,Nat.blt a pad with
   | true,true,false,true=>k j S fr Λ σ
   | _,_,_,_=>False
  | _=>False
 | .hb a o,m,j,S,fr,Λ,σ,k=>match m with
  | .bx a' o'=>match Nat.beq a a',Nat.beq o o',Nat.blt a pad with
   | true,true,true=>k j S fr Λ σ
   | _,_,_=>False
  | _=>False
def Vo {T:Type} (tg:List Nat) (pad i:Nat):(ps:List PSh)->Nat->Uj ps T->Src->MFr->List LObj->Hp->(T->Src->MFr->List LObj->Hp->Prop)->Prop
 | [],_,j,S,fr,Λ,σ,k=>k j S fr Λ σ
 | p::ps,n,j,S,fr,Λ,σ,k=>match AI Λ i with
  | .box _ cs=>match cs.drop n with
   | m::_=>UX tg pad p (toMV m) j S fr Λ σ fun j S fr Λ σ=>Vo tg pad i ps (n+1) j S fr Λ σ k
   | []=>False
  | _=>False
def Gw:List Bool->List LObj->Bool
 | true::ks,o::l=>match o with
  | .lk=>Gw ks l
  | _=>false
 | false::ks,o::l=>match o with
  | .lk=>false
  | _=>Gw ks l
 | [],o::l=>match o with
  | .lk=>false
  | _=>Gw [] l
 | [],[]=>true
 | _::_,[]=>false
def ZW:LObj->Bool
 | .lst ..=>true
 | _=>false
def C7:Src->List It->List LObj->Bool
 | _,[],_=>true
 | S,.modb i _ _::l,Λ=>match NT (AI Λ i) with
  | true=>C7 S l Λ
  | false=>false
 | S,.modl i _ _ _::l,Λ=>match ZW (AI Λ i),Ec (S.map fun s=>s.2.1) i with
  | true,false=>C7 S l Λ
  | _,_=>false
 | S,_::l,Λ=>C7 S l Λ
def Jo:Src->List LObj->Bool
 | [],_=>true
 | (_,a,g)::S,Λ=>match NB g (AI Λ a),Ec (S.map fun s=>s.2.1) a with
  | true,false=>Jo S Λ
  | _,_=>false
def RU (kept:List Bool) (pad:Nat) (its0:List It):(its:List It)->TyI its->Src->MFr->List LObj->Hp->Prop
 | [],j,S,_,Λ,σ=>match Gw kept Λ,C7 S its0 Λ,Jo S Λ with
  | true,true,true=>j σ
  | _,_,_=>False
 | .slot t p::l,j,S,fr,Λ,σ=>UX (tgI its0) pad p (B8 fr t) j S fr Λ σ fun j S fr Λ σ=>RU kept pad its0 l j S fr Λ σ
 | .modb i e ps::l,j,S,fr,Λ,σ=>match AI Λ i,Nat.blt i pad,Ec (tgI its0) i with
  | .box e' cs,true,false=>match Nat.beq e e',Nat.beq ps.length cs.length with
   | true,true=>Vo (tgI its0) pad i ps 0 j S fr Λ σ fun j S fr Λ σ=>RU kept pad its0 l j S fr Λ σ
   | _,_=>False
  | _,_,_=>False
 | .modl i g e ss::l,j,S,fr,Λ,σ=>match AI Λ i,Nat.blt i pad,Ec (tgI its0) i with
  | .lst e' g' s' xs,true,false=>match Nat.beq g g',Nat.beq e e',RD s' ss xs with
   | true,true,some ys=>RU kept pad its0 l (j ys) S fr Λ σ
   | _,_,_=>False
  | _,_,_=>False
def XG (tg:List Nat) (pad:Nat):MC->Bool
 | .v _=>true
 | .bx k _=>Nat.blt k pad
 | .ls k _=>Nat.blt k pad && !Ec tg k
def RJ (tg:List Nat) (pad:Nat):LObj->Bool
 | .box _ cs=>cs.all (XG tg pad)
 | _=>true
def K3 (tg:List Nat) (pad:Nat):List Bool->List LObj->List LObj->Nat->Bool
 | [],_,_,_=>true
 | true::ks,o::l,Γ,i=>(match o with
  | .lk=>RJ tg pad (AI Γ i)
  | o=>RJ tg pad o) && !Ec tg i&&Nat.blt i pad&&K3 tg pad ks l Γ (i+1)
 | false::ks,_::l,Γ,i=>K3 tg pad ks l Γ (i+1)
 | _::_,[],_,_=>false
def Em:List Bool->List LObj->List LObj
 | true::ks,_::l=>.lk::Em ks l
 | false::ks,o::l=>(match o with
  | .lk=>.gone
  | o=>o)::Em ks l
 | [],l=>l
 | _::_,[]=>[]
def Ep:List Bool->List LObj->List LObj->List LObj
 | k::ks,o::l,Γ=>(match k with
  | true=>match o with
   | .lk=>AI Γ 0
   | o=>o
  | false=>.gone)::Ep ks l Γ.tail
 | _,_,_=>[]
def ET:List Bool->List LObj->Nat->List LObj
 | true::ks,o::l,n=>o::ET ks l (n-1)
 | false::ks,_::l,n=>.gone::ET ks l (n-1)
 | _,_,n=>List.replicate n .gone
def Ju:List Bool->List LObj->List LObj->Option (List LObj)
 | true::ks,o::l,m=>match m with
  | .lk::m=>match Ju ks l m with
   | some r=>some (o::r)
   | none=>none
  | _=>none
 | false::ks,_::l,m=>match m with
  | .lk::_=>none
  | x::m=>match Ju ks l m with
   | some r=>some (x::r)
   | none=>none
  | []=>none
 | [],_,m=>match Gw [] m with
  | true=>some m
  | false=>none
 | _::_,[],_=>none
def Vg (b:Bool) (v:Value) (K:Value->Prop):Prop:=match b with
 | true=>match v with
  | .int k n=>K (.int k n)
  | .bool b=>K (.bool b)
  | .pointer p=>K (.pointer p)
  | .slice A n c=>K (.slice A n c)
  | .agg cs=>K (.agg cs)
  | v=>K v
 | false=>K v
theorem S5 {b:Bool} {v:Value} {K:Value->Prop}:Vg b v K↔K v:=by
 cases b
 ·exact Iff.rfl
 ·cases v<;>exact Iff.rfl
def RK:List (Nat×Bool)->MFr->MFr->(MFr->Prop)->Prop
 | [],_,r,K=>K r
 | (k,b)::l,fr,r,K=>match B8 fr k with
  | .v x=>Vg b x fun x=>RK l fr (.cons k (.v x) r) K
  | _=>False
theorem I3:∀ {l:List (Nat×Bool)} {fr r:MFr} {K:MFr->Prop},RK l fr r K->∃ r',K r'/\∀ t,B8 r' t=B8 r t∨((∃ b,(t,b)∈l)/\∃ x,B8 fr t=.v x/\B8 r' t=.v x)
 | [],fr,r,K,h=>⟨r,h,fun t=>.inl rfl⟩
 | (k,b)::l,fr,r,K,h=>by
  simp only [RK] at h
  split at h<;>first | exact h.elim | skip
  rename_i x hx
  obtain ⟨r',hK,hr⟩:=I3 (S5.1 h)
  refine ⟨r',hK,fun t=>?_⟩
  rcases hr t with h1 | ⟨⟨b',h1⟩,h2⟩
  ·rw [h1,D3]
   split
   ·rename_i e;subst e;exact .inr ⟨⟨b,List.mem_cons_self ..⟩,x,hx,rfl⟩
   ·exact .inl rfl
  ·exact .inr ⟨⟨b',List.mem_cons_of_mem _ h1⟩,h2⟩
end Go.Proofs.YtoelhdjloaknbaaGreat
