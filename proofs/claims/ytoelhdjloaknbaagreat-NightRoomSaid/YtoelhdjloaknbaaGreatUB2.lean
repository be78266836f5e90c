/- What this claim rests on. -/
import Derived.Test.YtoelhdjloaknbaaGreatUB1
namespace Go.Proofs.YtoelhdjloaknbaaGreat
open Go.RowKit
def lat {α:Type} (xs:List α) (i:Nat) (K:α->Prop):Prop:=∃ h:i<xs.length,K xs[i]
def NT:LObj->Bool
 | .box ..=>true
 | _=>false
def NB (g:Nat):LObj->Bool
 | .lst _ g' _ _=>Nat.beq g g'
 | _=>false
def shV:Sh->Value->Bool
 | .bool,.bool _=>true
 | .int k,.int k' _=>QH k k'
 | .str,.string _=>true
 | .ptr,.pointer _=>true
 | .slc,.slice ..=>true
 | .mp,.map _=>true
 | .any,_=>true
 | _,_=>false
def shB:Sh->Sh->Bool
 | .bool,.bool=>true
 | .int k,.int k'=>QH k k'
 | .str,.str=>true
 | .ptr,.ptr=>true
 | .slc,.slc=>true
 | .mp,.mp=>true
 | .any,.any=>true
 | _,_=>false
theorem Yn {a b:Sh} (h:shB a b=true):a=b:=by
 cases a<;>cases b<;>first | rfl | (cases h;done) | (rw [H7 h])
def Yl:List Sh->List Sh->Bool
 | [],[]=>true
 | a::l,b::m=>match shB a b with
  | true=>Yl l m
  | false=>false
 | _,_=>false
theorem MX:∀ {a b:List Sh},Yl a b=true->a=b
 | [],[],_=>rfl
 | a::l,b::m,h=>by
  simp only [Yl] at h
  split at h
  ·rename_i h1;rw [Yn h1,MX h]
  ·cases h
 | [],_::_,h=>by cases h
 | _::_,[],h=>by cases h
def chk (O:Nat->LObj):Sh->MC->Bool
 | s,.v x=>shV s x
 | .ptr,.bx k _=>NT (O k)
 | .slc,.ls k g=>NB g (O k)
 | _,_=>false
def ZJ (O:Nat->LObj):List Sh->List MC->Option (List MC)
 | [],_=>some []
 | s::ss,ms=>match ms with
  | m::ms=>match chk O s m with
   | true=>match ZJ O ss ms with
    | some r=>some (m::r)
    | none=>none
   | false=>none
  | []=>none
def VA (P:Program) (O:Nat->LObj) (t:TypeId) (cs:List MC) (off:Nat):Option MV:=match GT P t with
 | true=>match (Bi P 8 t).length==P.cellsOf t with
  | true=>match ZJ O (Bi P 8 t) (cs.drop off) with
   | some ms=>some (mkAgg ms)
   | none=>none
  | false=>none
 | false=>match P.underlying t with
  | some _=>match cs.drop off with
   | m::_=>match chk O (RQ P t) m with
    | true=>some (toMV m)
    | false=>none
   | []=>none
  | none=>none
def N7 (ag:Bool) (O:Nat->LObj) (m:MV) (K:List MC->Prop):Prop:=match m with
 | .v x=>match ag with
  | true=>K (x.cells.toList.map .v)
  | false=>one x (K [.v x])
 | .bx k o=>match NT (O k) with
  | true=>K [.bx k o]
  | false=>False
 | .ls k g=>match NB g (O k) with
  | true=>K [.ls k g]
  | false=>False
 | .agg cs=>K cs
 | .ep ..=>False
def K1 (O:Nat->LObj):List MC->Prop->Prop
 | [],p=>p
 | .v x::l,p=>one x (K1 O l p)
 | .bx k _::l,p=>match NT (O k) with
  | true=>K1 O l p
  | false=>False
 | .ls k g::l,p=>match NB g (O k) with
  | true=>K1 O l p
  | false=>False
def Pb:List MC->Nat->List MC->List MC
 | cs,_,[]=>cs
 | cs,off,m::ms=>Pb (cs.set off m) (off+1) ms
def VG (ss:List Sh):TyR ss->Nat->List Value->Option (TyR ss)
 | r,_,[]=>some r
 | r,j,v::vs=>match setR ss r j v with
  | some r'=>VG ss r' (j+1) vs
  | none=>none
def SA (ss:List Sh):Nat->List Value->Option (List (TyR ss))
 | 0,_=>some []
 | n+1,cs=>match AaC ss (cs.take ss.length) with
  | some x=>match SA ss n (cs.drop ss.length) with
   | some xs=>some (x::xs)
   | none=>none
  | none=>none
def RD (s t:List Sh) (xs:List (TyR s)):Option (List (TyR t)):=
 match h:Yl s t with
 | true=>some (MX h▸xs)
 | false=>none
def AZ (n:Nat) (p:Prop):Prop:=n<=4294967296/\p
def Aar (_:Program) (_:Oper) (fr:MFr) (Γ Λ:List LObj) (σ:Hp) (K:MV->MFr->List LObj->Hp->Prop) (x:Operand):Option Prop:=match mev fr x with
 | .bx k off=>match NT (obj Γ Λ k) with
  | true=>some (K (.bx k off) fr Λ σ)
  | false=>some False
 | .ep k g i j=>match NB g (obj Γ Λ k) with
  | true=>some (K (.ep k g i j) fr Λ σ)
  | false=>some False
 | _=>none
def MP (P:Program) (fr:MFr) (Γ Λ:List LObj) (σ:Hp) (K:MV->MFr->List LObj->Hp->Prop) (s:TypeId) (x:Operand) (f:Nat):Option Prop:=match mev fr x with
 | .bx k off=>match Lo P s f,NT (obj Γ Λ k) with
  | some (o,_+1,_),true=>some (K (.bx k (ofs off o)) fr Λ σ)
  | _,_=>some False
 | .ep k g i j=>match Lo P s f,NB g (obj Γ Λ k) with
  | some (o,_+1,_),true=>some (K (.ep k g i (ofs j o)) fr Λ σ)
  | _,_=>some False
 | _=>none
def XQ (P:Program) (fr:MFr) (Γ Λ:List LObj) (σ:Hp) (K:MV->MFr->List LObj->Hp->Prop) (t:TypeId) (x:Operand):Option Prop:=match mev fr x with
 | .bx k off=>match obj Γ Λ k with
  | .box _ cs=>match VA P (obj Γ Λ) t cs off with
   | some m=>some (K m fr Λ σ)
   | none=>some False
  | _=>some False
 | .ep k g i j=>match obj Γ Λ k with
  | .lst _ g' ss xs=>match Nat.beq g g' with
   | true=>match GT P t with
    | true=>match (Bi P 8 t).length==P.cellsOf t,Yl (Bi P 8 t) ((ss.drop j).take (Bi P 8 t).length) with
     | true,true=>some (lat xs i fun r=>K (.v (.agg ⟨((BO ss r).drop j).take (Bi P 8 t).length⟩)) fr Λ σ)
     | _,_=>some False
    | false=>match P.underlying t,ss.drop j with
     | some _,s::_=>match shB s (RQ P t) with
      | true=>some (lat xs i fun r=>match (BO ss r).drop j with
       | v::_=>K (.v v) fr Λ σ
       | []=>False)
      | false=>some False
     | _,_=>some False
   | false=>some False
  | _=>some False
 | _=>none
def Mc (P:Program) (fr:MFr) (Γ Λ:List LObj) (σ:Hp) (K:MV->MFr->List LObj->Hp->Prop) (t:TypeId) (x i:Operand):Option Prop:=match mev fr x with
 | .ls k g=>match P.underlying t,mev fr i,obj Γ Λ k with
  | some (.slice e),.v (.int _ z),.lst _ g' ss xs=>match P.info? e,Nat.beq g g' with
   | some ie,true=>match Nat.beq ie.size ss.length with
    | true=>some (0<=z/\z<(xs.length:Int)/\K (.ep k g z.toNat 0) fr Λ σ)
    | false=>some False
   | _,_=>some False
  | _,_,_=>some False
 | .bx k off=>match P.underlying t,mev fr i,NT (obj Γ Λ k) with
  | some (.array (n+1) e),.v (.int _ z),true=>match P.info? e with
   | some ie=>some (0<=z/\z<((n+1:Nat):Int)/\K (.bx k (off+KU z.toNat ie.size)) fr Λ σ)
   | none=>some False
  | _,_,_=>some False
 | _=>none
def AaA (P:Program) (fr:MFr) (Γ Λ:List LObj) (σ:Hp) (K:MV->MFr->List LObj->Hp->Prop) (args:List Operand) (ts:List TypeId):Option Prop:=match args,ts with
 | [x],[t]=>match mev fr x with
  | .ls k g=>match P.underlying t,obj Γ Λ k with
   | some (.slice _),.lst _ g' _ xs=>match Nat.beq g g' with
    | true=>some (K (.v (.int .i64 xs.length)) fr Λ σ)
    | false=>some False
   | _,_=>some False
  | _=>none
 | _,_=>none
def Ug (P:Program) (h:Bool) (fr:MFr) (Γ Λ:List LObj) (σ:Hp) (K:MV->MFr->List LObj->Hp->Prop) (t:TypeId) (x v:Operand):Option Prop:=match mev fr x with
 | .bx k off=>match h,AI Λ k,P.info? t with
  | false,.box e cs,some _=>some (N7 (GT P t) (obj Γ Λ) (mev fr v) fun ms=>match Nat.beq ms.length (P.cellsOf t),Nat.ble (off+ms.length) cs.length with
   | true,true=>K1 (obj Γ Λ) ms (K (.v undef) fr (BJ Λ k (.box e (Pb cs off ms))) σ)
   | _,_=>False)
  | _,_,_=>some False
 | .ep k g i j=>match h,AI Λ k,P.info? t with
  | false,.lst e g' ss xs,some _=>match Nat.beq g g',mev fr v with
   | true,.v u=>match Nat.beq u.cells.toList.length (P.cellsOf t) with
    | true=>some (lat xs i fun r=>match VG ss r j u.cells.toList with
     | some r'=>K (.v undef) fr (BJ Λ k (.lst e g' ss (xs.set i r'))) σ
     | none=>False)
    | false=>some False
   | _,_=>some False
  | _,_,_=>some False
 | _=>none
def K2 (P:Program) (fr:MFr) (Λ:List LObj) (σ:Hp) (K:MV->MFr->List LObj->Hp->Prop) (t:TypeId) (len:Nat) (parts:List (Nat×Operand)):Option Prop:=match P.underlying t with
 | some (.slice e)=>match P.info? e,parts.all fun p=>isV (mev fr p.2) with
  | some ie,true=>match ie.zero,decide (len*ie.size<=16777216),decide (len*ie.size=0),Nat.beq ie.size (Bi P 8 e).length with
   | some z,true,false,true=>match Instr.fill (fun i=>some (i*ie.size,ie.size)) (VR z (len*ie.size)) (parts.map fun (i,x)=>(i,cvl (mev fr x))) with
    | some cs=>match Nat.beq cs.toList.length (len*ie.size),SA (Bi P 8 e) len cs.toList with
     | true,some xs=>some (K (.ls Λ.length 0) fr (Λ++[.lst e 0 (Bi P 8 e) xs]) σ)
     | _,_=>none
    | none=>none
   | some _,true,true,_=>match parts,len with
    | [],0=>some (K (.ls Λ.length 0) fr (Λ++[.lst e 0 (Bi P 8 e) []]) σ)
    | _,_=>none
   | _,_,_,_=>none
  | _,_=>none
 | _=>none
def MM (P:Program) (fr:MFr) (Λ:List LObj) (σ:Hp) (K:MV->MFr->List LObj->Hp->Prop) (t:TypeId) (l c:Operand):Option Prop:=match P.underlying t with
 | some (.slice e)=>match P.info? e with
  | some ie=>match ie.zero,mev fr l,mev fr c,lE.z0 ie with
   | some z,.v (.int _ n),.v (.int _ m),true=>match AaC (Bi P 8 e) z.cells.toList with
    | some r=>some (0<=n/\n<=m/\m<=1000000000/\K (.ls Λ.length 0) fr (Λ++[.lst e 0 (Bi P 8 e) (List.replicate n.toNat r)]) σ)
    | none=>none
   | _,_,_,_=>none
  | none=>none
 | _=>none
def UG (P:Program) (_:Bool) (fr:MFr) (Λ:List LObj) (σ:Hp) (K:MV->MFr->List LObj->Hp->Prop) (t:TypeId) (x:Operand) (lo hi:Option Operand):Option Prop:=match mev fr x with
 | .ls k g=>match P.underlying t,AI Λ k with
  | some (.slice e'),.lst e g' ss xs=>match P.info? e',Nat.beq g g' with
   | some ie,true=>match Nat.beq ie.size ss.length with
    | true=>match lo.map (mev fr),hi.map (mev fr) with
     | some (.v (.int _ l)),none=>some (0<=l/\l<=(xs.length:Int)/\K (.ls k (g+1)) fr (BJ Λ k (.lst e (g+1) ss (xs.drop l.toNat))) σ)
     | none,some (.v (.int _ u))=>some (0<=u/\u<=(xs.length:Int)/\K (.ls k (g+1)) fr (BJ Λ k (.lst e (g+1) ss (xs.take u.toNat))) σ)
     | some (.v (.int _ l)),some (.v (.int _ u))=>some (0<=l/\l<=u/\u<=(xs.length:Int)/\K (.ls k (g+1)) fr (BJ Λ k (.lst e (g+1) ss ((xs.take u.toNat).drop l.toNat))) σ)
     | _,_=>some False
    | false=>some False
   | _,_=>some False
  | _,_=>some False
 | _=>none
def Ue (_:MFr) (Γ Λ:List LObj) (σ:Hp) (ss:List Sh) (k:Nat) (y:MV) (K:List (TyR ss)->Prop):Prop:=match y with
 | .ls k2 g2=>match obj Γ Λ k2 with
  | .lst _ g' s2 ys=>match Nat.beq g2 g',Nat.beq k k2 with
   | true,false=>match RD s2 ss ys with
    | some zs=>K zs
    | none=>False
   | _,_=>False
  | _=>False
 | .v (.slice A n _)=>∃ ys,RdS ss σ A n ys/\K ys
 | _=>False
def AaQ:Option TypeDesc->Bool
 | some (.int _)=>false
 | some _=>true
 | none=>false
def O9:List Sh->Bool
 | []=>true
 | .any::_=>false
 | _::l=>O9 l
def R3 (P:Program) (h:Bool) (fr:MFr) (Γ Λ:List LObj) (σ:Hp) (K:MV->MFr->List LObj->Hp->Prop) (args:List Operand) (ts:List TypeId):Option Prop:=match args,ts with
 | [x,y],[t,u]=>match P.underlying t,AaQ (P.underlying u) with
  | some (.slice e),true=>match P.info? e with
   | some ie=>match ie.zero with
    | some z=>match Nat.ble ie.bytes 4096,Nat.beq z.cells.size ie.size,Nat.ble 1 ie.size with
     | true,true,true=>match mev fr x with
      | .ls k g=>match h,AI Λ k with
       | false,.lst e' g' ss xs=>match Nat.beq g g',Nat.beq e e',Nat.beq ie.size ss.length&&O9 ss with
        | true,true,true=>some (Ue fr Γ Λ σ ss k (mev fr y) fun ys=>AZ (xs.length+ys.length) (K (.ls k (g+1)) fr (BJ Λ k (.lst e' (g+1) ss (xs++ys))) σ))
        | _,_,_=>some False
       | _,_=>some False
      | .v (.slice A n c)=>match h,Nat.beq ie.size (Bi P 8 e).length&&O9 (Bi P 8 e) with
       | false,true=>some (adp e (Bi P 8 e) A n c σ fun xs σ'=>Ue fr Γ Λ σ' (Bi P 8 e) Λ.length (mev fr y) fun ys=>AZ (xs.length+ys.length) (K (.ls Λ.length 1) fr (Λ++[.lst e 1 (Bi P 8 e) (xs++ys)]) σ'))
       | _,_=>some False
      | _=>none
     | _,_,_=>none
    | none=>none
   | none=>none
  | _,_=>none
 | _,_=>none
def mSp (P:Program) (Γ:List LObj) (h:Bool) (o:Oper) (fr:MFr) (Λ:List LObj) (σ:Hp) (K:MV->MFr->List LObj->Hp->Prop):Option Prop:=
 match o.op with
 | .move x=>some (K (mev fr x) fr Λ σ)
 | .assign x=>some (K (mev fr x) fr Λ σ)
 | .pick c a b=>match mev fr c with
  | .v (.bool true)=>some (K (mev fr a) fr Λ σ)
  | .v (.bool false)=>some (K (mev fr b) fr Λ σ)
  | _=>none
 | .nilCheck x=>Aar P o fr Γ Λ σ K x
 | .fieldAddr s x f=>MP P fr Γ Λ σ K s x f
 | .load t x=>XQ P fr Γ Λ σ K t x
 | .indexAddr t x i=>Mc P fr Γ Λ σ K t x i
 | .call ⟨.builtin .len,args,ts⟩=>AaA P fr Γ Λ σ K args.toList ts.toList
 | .box e x=>some (N7 (GT P e) (obj Γ Λ) (mev fr x) fun cs=>K (.bx Λ.length 0) fr (Λ++[.box e cs]) σ)
 | .alloc e=>match (P.info? e).bind (·.zero) with
  | some z=>some (K (.bx Λ.length 0) fr (Λ++[.box e (z.cells.toList.map .v)]) σ)
  | none=>some False
 | .buildSlice t len parts=>K2 P fr Λ σ K t len parts.toList
 | .makeSlice t l c=>MM P fr Λ σ K t l c
 | .store t x v=>Ug P h fr Γ Λ σ K t x v
 | .slice t x lo hi none=>UG P h fr Λ σ K t x lo hi
 | .call ⟨.builtin .append,args,ts⟩=>R3 P h fr Γ Λ σ K args.toList ts.toList
 | _=>none
def Xq (h:Bool) (σ σ':Hp) (p:Prop):Prop:=match h with
 | true=>Hp.Sub σ σ'/\p
 | false=>p
def Zf (P:Program) (h:Bool) (o:Oper) (fr:MFr) (Λ:List LObj) (σ:Hp) (K:MV->MFr->List LObj->Hp->Prop):Prop:=
 Fa 12 (o.op.operands.toList.map (mev fr)) fr Λ σ fun _ fr' Λ' σ'=>match o.op.operands.toList.all fun x=>isV (mev fr' x) with
  | true=>match Hm o.op with
   | true=>lY P o.op (fun x=>cvl (mev fr' x)) σ' fun v=>K (.v v) fr' Λ' σ'
   | false=>match o.op with
    | .call ⟨.value f,args,_⟩=>B7 P (cvl (mev fr' f)) (C1 (fun x=>cvl (mev fr' x)) args) σ' fun v s''=>tyV P o.type v fun u=>Xq h σ' s'' (K (.v u) fr' Λ' s'')
    | .call ⟨.invoke r m,args,_⟩=>Abm P (cvl (mev fr' r)) m (C1 (fun x=>cvl (mev fr' x)) args) σ' fun v s''=>tyV P o.type v fun u=>Xq h σ' s'' (K (.v u) fr' Λ' s'')
    | _=>lE P o (fun x=>cvl (mev fr' x)) σ' fun v s''=>Xq h σ' s'' (K (.v v) fr' Λ' s'')
  | false=>False
def mOp (P:Program) (Γ:List LObj) (h:Bool) (o:Oper) (fr:MFr) (Λ:List LObj) (σ:Hp) (K:MV->MFr->List LObj->Hp->Prop):Prop:=
 match mSp P Γ h o fr Λ σ K with
 | some p=>p
 | none=>Zf P h o fr Λ σ K
def evl (vals:Nat->Value):Operand->Value
 | .tmp t=>vals t
 | .const v=>v
 | .global g=>.pointer (some ⟨g,0,none⟩)
 | .func f=>.func (.func f) #[] #[]
structure St (Γ:List LObj) (F:Hp) (vals:Nat->Value) (θ:Nat->Loc) (fr:MFr) (Λ:List LObj) (σ σc:Hp):Prop where
 hr:HR Λ.length θ (obj Γ Λ) σ F σc
 fr:∀ t,CV Λ.length θ (obj Γ Λ) (B8 fr t) (vals t)
def Pst (Γ:List LObj) (F:Hp) (vals:Nat->Value) (h:Bool) (σc:Hp) (K:MV->MFr->List LObj->Hp->Prop):Value->Hp->Prop:=fun u sc'=>
 (h=true->Hp.Sub σc sc')/\∃ θ fr Λ σ m,St Γ F vals θ fr Λ σ sc'/\CV Λ.length θ (obj Γ Λ) m u/\K m fr Λ σ
section
variable {P:Program} {Γ Λ:List LObj} {θ:Nat->Loc} {σ F σc:Hp} {fr:MFr} {vals:Nat->Value} {h:Bool} {K:MV->MFr->List LObj->Hp->Prop}
theorem St.ev (hs:St Γ F vals θ fr Λ σ σc) (x:Operand):CV Λ.length θ (obj Γ Λ) (mev fr x) (evl vals x):=by
 cases x with
 | tmp t=>exact hs.fr t
 | _=>exact rfl
theorem St.pst (hs:St Γ F vals θ fr Λ σ σc) {m:MV} {u:Value} (hk:K m fr Λ σ) (hm:CV Λ.length θ (obj Γ Λ) m u):Pst Γ F vals h σc K u σc:=
 ⟨fun _=>Hp.Sub.refl _,θ,fr,Λ,σ,m,hs,hm,hk⟩
theorem St.next {θ':Nat->Loc} {Λ':List LObj} {σ' sc':Hp} (hs:St Γ F vals θ fr Λ σ σc) (h1:HR Λ'.length θ' (obj Γ Λ') σ' F sc') (h2:Ev Λ.length θ (obj Γ Λ) θ' (obj Γ Λ')) (h3:Λ.length<=Λ'.length):St Γ F vals θ' fr Λ' σ' sc':=
 ⟨h1,fun t=>(hs.fr t).ev h2 h3⟩
theorem E1 {o:LObj} (h:NT o=true):∃ e cs,o=.box e cs:=by
 cases o with
 | box e cs=>exact ⟨_,_,rfl⟩
 | _=>cases h
theorem H0 {o:LObj} {g:Nat} (h:NB g o=true):∃ e ss xs,o=.lst e g ss xs:=by
 cases o<;>first | cases h | skip
 exact ⟨_,_,_,by rw [Nat.eq_of_beq_eq_true h]⟩
def Qr (s:Sh) (v:Value):Prop:=∃ x:Ty1 s,v=Ou s x
theorem Ze {s:Sh} {x:Value} (h:shV s x=true):Qr s x:=by
 cases s<;>cases x<;>first | (cases h;done) | exact ⟨_,rfl⟩ | exact ⟨(_,_,_),rfl⟩ | skip
 all_goals (first | (exact ⟨_,by rw [H7 h];rfl⟩))
theorem VK {s:Sh} {m:MC} {u:Value} {n:Nat} {O:Nat->LObj} (h:chk O s m=true) (hm:CVc n θ O m u):Qr s u:=by
 cases m with
 | v x=>rw [(hm:_=_)];exact Ze (by cases s<;>exact h)
 | bx k o=>
  cases s<;>first | cases h | skip
  obtain ⟨e,cs,ho⟩:=E1 h
  rw [hm.2 _ _ ho]
  exact ⟨_,rfl⟩
 | ls k g=>
  cases s<;>first | cases h | skip
  obtain ⟨e,ss,xs,ho⟩:=H0 h
  rw [(hm.2 _ _ _ _ ho).2 rfl]
  exact ⟨(_,_,_),rfl⟩
theorem UD {σ:Hp} {s:Sh} {b off:Nat} {u:Value} {k:Value->Prop} (hu:Qr s u) (hc:σ.cell? ⟨b,off,none⟩=some u) (hk:k u):lf σ s b off k:=by
 obtain ⟨x,rfl⟩:=hu
 cases s<;>first | exact ⟨_,hc,hk⟩ | exact ⟨_,_,_,hc,hk⟩
theorem RR {σ:Hp} {b off:Nat}:∀ {ss:List Sh} {us:List Value} {i:Nat} {k:List Value->Prop},Bq Qr ss us->(∀ j u,us[j]? = some u->σ.cell? ⟨b,off+(i+j),none⟩=some u)->k us->lfs σ ss b off i k
 | [],_,i,k,.nil,_,hk=>hk
 | s::ss,_,i,k,.cons (b:=u) (ys:=us) h1 h2,hc,hk=>by
  refine UD h1 (hc 0 u rfl) ?_
  refine RR h2 (fun j u hj=>?_) hk
  have:=hc (j+1) u (by simpa using hj)
  rw [← this]
  congr 2
  omega
theorem Te:∀ (ss:List Sh) (x:TyR ss),Bq Qr ss (BO ss x):=by
 have hC:∀ (ss:List Sh) (s:Sh) (x:TyC ss s),Bq Qr (s::ss) (Mb ss s x):=by
  intro ss
  induction ss with
  | nil=>intro s x;exact .cons ⟨x,rfl⟩ .nil
  | cons t ss ih=>intro s x;exact .cons ⟨x.1,rfl⟩ (ih t x.2)
 intro ss x
 cases ss with
 | nil=>exact .nil
 | cons s ss=>exact hC ss s x
theorem SK {n:Nat} {O:Nat->LObj}:∀ {ss:List Sh} {ms r:List MC} {us:List Value},ZJ O ss ms=some r->Bq (CVc n θ O) ms us->∃ vs ws,us=vs++ws/\Bq Qr ss vs/\Bq (CVc n θ O) r vs
 | [],ms,r,us,h,ha=>by cases h;exact ⟨[],us,rfl,.nil,.nil⟩
 | s::ss,[],r,us,h,ha=>by cases h
 | s::ss,m::ms,r,us,h,ha=>by
  cases ha with
  | cons h1 h2=>
   simp only [ZJ] at h
   split at h<;>first | cases h | skip
   rename_i hc
   split at h
   ·rename_i r' hr
    cases h
    obtain ⟨vs,ws,rfl,h3,h4⟩:=SK hr h2
    exact ⟨_::vs,ws,rfl,.cons (VK hc h1) h3,.cons h1 h4⟩
   ·cases h
theorem PV {σ:Hp} {b off:Nat} {c:Array Value} {e:TypeId} {f:Nat×Nat} {rw:Bool} {v:Value} (h:σ b=some (.cells c e f,rw)) (hv:c[off]? = some v):σ.cell? ⟨b,off,none⟩=some v:=by
 unfold Hp.cell?
 simp only [h]
 exact hv
theorem Fj {α:Type} {l m:List α} {x:α} {n:Nat} (h:l.drop n=x::m):l[n]? = some x:=by
 have:=congrArg (·[0]?) h
 simpa using this
theorem Uf {o:Oper} {x:Operand} {p:Prop} (hop:o.op=.nilCheck x) (hs:St Γ F vals θ fr Λ σ σc) (e:Aar P o fr Γ Λ σ K x=some p) (hp:p):lOp P o (evl vals) σc (Pst Γ F vals h σc K):=by
 unfold lOp
 rw [hop]
 show lY P (.nilCheck x) _ _ _
 have hx:=hs.ev x
 unfold Aar at e
 split at e
 ·rename_i k off hm
  split at e
  ·rename_i hb
   cases e
   rw [hm] at hx
   obtain ⟨e',cs,ho⟩:=E1 hb
   simp only [lY,hx.2 _ _ ho]
   exact hs.pst hp ⟨hx.1,fun _ _ _=>rfl⟩
  ·cases e;exact hp.elim
 ·rename_i k g i j hm
  split at e
  ·rename_i hb
   cases e
   rw [hm] at hx
   obtain ⟨e',ss,xs,ho⟩:=H0 hb
   obtain ⟨h1,h2,h3⟩:=(hx.2 _ _ _ _ ho).2 rfl
   simp only [lY,h3]
   exact hs.pst hp (by rw [← h3];exact hx)
  ·cases e;exact hp.elim
 ·cases e
theorem ON {o:Oper} {s:TypeId} {x:Operand} {f:Nat} {p:Prop} (hop:o.op=.fieldAddr s x f) (hs:St Γ F vals θ fr Λ σ σc) (e:MP P fr Γ Λ σ K s x f=some p) (hp:p):lOp P o (evl vals) σc (Pst Γ F vals h σc K):=by
 unfold lOp
 rw [hop]
 show lY P (.fieldAddr s x f) _ _ _
 have hx:=hs.ev x
 unfold MP at e
 split at e
 ·rename_i k off hm
  split at e
  ·rename_i o' n t hf hb
   cases e
   rw [hm] at hx
   obtain ⟨e',cs,ho⟩:=E1 hb
   simp only [lY,hf,hx.2 _ _ ho]
   exact hs.pst hp ⟨hx.1,fun _ _ _=>rfl⟩
  ·cases e;exact hp.elim
 ·rename_i k g i j hm
  split at e
  ·rename_i o' n t hf hb
   cases e
   rw [hm] at hx
   obtain ⟨e',ss,xs,ho⟩:=H0 hb
   obtain ⟨h1,h2,h3⟩:=(hx.2 _ _ _ _ ho).2 rfl
   simp only [lY,hf,h3]
   refine hs.pst hp ⟨hx.1,fun e g' ss' xs' ho'=>?_⟩
   rw [ho] at ho'
   cases ho'
   refine ⟨Nat.le_refl _,fun _=>⟨h1,h2,?_⟩⟩
   simp only [KY]
   have:(θ k).off+(i*ss.length+j)+o'=(θ k).off+(i*ss.length+(j+o')):=by omega
   rw [this]
  ·cases e;exact hp.elim
 ·cases e
theorem O6 {t:TypeId} {cs:List MC} {off b:Nat} {us:List Value} {e:TypeId} {m:MV} {k:Value->Prop} {n:Nat} {O:Nat->LObj} (hl:VA P O t cs off=some m) (ha:Bq (CVc n θ O) cs us) (hb:σc b=some (.cells us.toArray e (0,0),true)) (hk:∀ u,CV n θ O m u->k u):
  (match GT P t with
   | true=>match (Bi P 8 t).length==P.cellsOf t with
    | true=>lfs σc (Bi P 8 t) b off 0 fun vs=>k (.agg vs.toArray)
    | false=>False
   | false=>match P.underlying t with
    | some _=>lf σc (RQ P t) b off k
    | none=>False):=by
 unfold VA at hl
 split at hl
 ·split at hl
  ·split at hl
   ·rename_i ms hc
    cases hl
    obtain ⟨vs,ws,h1,h2,h3⟩:=SK hc (ha.drop off)
    refine RR h2 (fun j u hj=>PV hb ?_) (hk _ (CV.mkAgg h3))
    have:(us.drop off)[j]? = some u:=by
     rw [h1,List.getElem?_append_left]
     ·exact hj
     ·rcases Nat.lt_or_ge j vs.length with h | h
      ·exact h
      ·rw [List.getElem?_eq_none h] at hj;cases hj
    rw [List.getElem?_drop] at this
    simpa using this
   ·cases hl
  ·cases hl
 ·split at hl
  ·rename_i hu
   split at hl
   ·rename_i m' ms hd
    split at hl
    ·rename_i hc
     cases hl
     obtain ⟨u,h1,h2⟩:=ha.get (Fj hd)
     exact UD (VK hc h2) (PV hb (by simpa using h1)) (hk _ (CV.toMV h2))
    ·cases hl
   ·cases hl
  ·cases hl
theorem TY {o:Oper} {t:TypeId} {x:Operand} {p:Prop} (hop:o.op=.load t x) (hs:St Γ F vals θ fr Λ σ σc) (e:XQ P fr Γ Λ σ K t x=some p) (hp:p):lOp P o (evl vals) σc (Pst Γ F vals h σc K):=by
 unfold lOp
 rw [hop]
 show lY P (.load t x) _ _ _
 have hx:=hs.ev x
 unfold XQ at e
 split at e
 ·rename_i k off hm
  split at e
  ·rename_i e' cs ho
   split at e
   ·rename_i m hl
    cases e
    rw [hm] at hx
    have hr:=hs.hr.real k
    rw [ho] at hr
    obtain ⟨us,h1,h2⟩:=hr
    simp only [lY,hx.2 _ _ ho]
    exact O6 hl h2 h1 fun u hu=>hs.pst hp hu
   ·cases e;exact hp.elim
  ·cases e;exact hp.elim
 ·rename_i k g i j hm
  split at e
  ·rename_i e' g' ss xs ho
   split at e
   ·rename_i hg
    obtain rfl:=Nat.eq_of_beq_eq_true hg
    rw [hm] at hx
    obtain ⟨h1,h2,h3⟩:=(hx.2 _ _ _ _ ho).2 rfl
    have hr:=hs.hr.real k
    rw [ho] at hr
    have hr:=hr.2
    rw [h2] at hr
    obtain ⟨cells,h4,h5,h6⟩:=hr
    have hcell:∀ j' v,(BO ss xs[i])[j+j']? = some v->σc.cell? ⟨(θ k).b,(θ k).off+(i*ss.length+j)+j',none⟩=some v:=fun j' v hv=>by
     have hlt:j+j'<ss.length:=by
      rcases Nat.lt_or_ge (j+j') ss.length with h | h
      ·exact h
      ·rw [List.getElem?_eq_none (by rw [Bv];exact h)] at hv;cases hv
     refine PV h4 ?_
     rw [← hv,← h6 i (j+j') h1 hlt]
     congr 1
     omega
    simp only [lY,h3]
    show (match GT P t with | true=>_ | false=>_)
    split at e
    ·split at e
     ·rename_i hlen hsh
      cases e
      obtain ⟨hi,hp⟩:=hp
      rw [hlen]
      have hh:=((Te ss xs[i]).drop j).take (Bi P 8 t).length
      rw [← MX hsh] at hh
      refine RR hh (fun j' u hj=>?_) (hs.pst hp rfl)
      rw [Nat.zero_add]
      refine hcell j' u ?_
      rw [List.getElem?_take] at hj
      split at hj
      ·rw [List.getElem?_drop] at hj;exact hj
      ·cases hj
     ·cases e;exact hp.elim
    ·split at e
     ·rename_i d s ss' hu hd
      split at e
      ·rename_i hsh
       cases e
       obtain ⟨hi,hp⟩:=hp
       rw [hu]
       have hh:=(Te ss xs[i]).drop j
       rw [hd] at hh
       split at hp
       ·rename_i v vs hv
        rw [hv] at hh
        cases hh with
        | cons h7 _=>
         rw [Yn hsh] at h7
         exact UD h7 (hcell 0 v (by simpa using Fj hv)) (hs.pst hp rfl)
       ·exact hp.elim
      ·cases e;exact hp.elim
     ·cases e;exact hp.elim
   ·cases e;exact hp.elim
  ·cases e;exact hp.elim
 ·cases e
theorem Ov {o:Oper} {t:TypeId} {x i:Operand} {p:Prop} (hop:o.op=.indexAddr t x i) (hs:St Γ F vals θ fr Λ σ σc) (e:Mc P fr Γ Λ σ K t x i=some p) (hp:p):lOp P o (evl vals) σc (Pst Γ F vals h σc K):=by
 unfold lOp
 rw [hop]
 show lY P (.indexAddr t x i) _ _ _
 have hx:=hs.ev x
 have hi:=hs.ev i
 unfold Mc at e
 split at e
 ·rename_i k g hm
  split at e
  ·rename_i e' ik z e'' g' ss xs hu hz ho
   split at e
   ·rename_i ie hie hg
    obtain rfl:=Nat.eq_of_beq_eq_true hg
    split at e
    ·rename_i hsz
     cases e
     obtain ⟨h0,h1,hp⟩:=hp
     rw [hm] at hx
     rw [hz] at hi
     have hi:evl vals i=.int ik z:=hi
     have hsz:=Nat.eq_of_beq_eq_true hsz
     have hv:=(hx.2 _ _ _ _ ho).2 rfl
     have hr:=hs.hr.real k
     rw [ho] at hr
     have hlt:z.toNat<xs.length:=by omega
     have hnil:(θ k).nil=false:=by
      cases hn:(θ k).nil with
      | false=>rfl
      | true=>have h2:=hr.2;rw [hn] at h2;have:=hr.1;omega
     have haddr:(θ k).addr=some ⟨(θ k).b,(θ k).off,none⟩:=by unfold Loc.addr;rw [hnil]
     simp only [lY,hu,hie,hv,hi,haddr]
     refine ⟨h0,h1,hs.pst hp ⟨hx.1,fun e1 g1 ss1 xs1 ho1=>?_⟩⟩
     rw [ho] at ho1
     cases ho1
     refine ⟨Nat.le_refl _,fun _=>⟨hlt,hnil,?_⟩⟩
     rw [Ce,hsz]
     rfl
    ·cases e;exact hp.elim
   ·cases e;exact hp.elim
  ·cases e;exact hp.elim
 ·rename_i k off hm
  split at e
  ·rename_i n e' ik z hu hz hb
   split at e
   ·rename_i ie hie
    cases e
    obtain ⟨h0,h1,hp⟩:=hp
    rw [hm] at hx
    rw [hz] at hi
    have hi:evl vals i=.int ik z:=hi
    obtain ⟨e1,cs,ho⟩:=E1 hb
    simp only [lY,hu,hie,hx.2 _ _ ho,hi]
    exact ⟨h0,h1,hs.pst hp ⟨hx.1,fun _ _ _=>rfl⟩⟩
   ·cases e;exact hp.elim
  ·cases e;exact hp.elim
 ·cases e
theorem Us {o:Oper} {args:Array Operand} {ts:Array TypeId} {p:Prop} (hop:o.op=.call ⟨.builtin .len,args,ts⟩) (hs:St Γ F vals θ fr Λ σ σc) (e:AaA P fr Γ Λ σ K args.toList ts.toList=some p) (hp:p):lOp P o (evl vals) σc (Pst Γ F vals h σc K):=by
 unfold lOp
 rw [hop]
 show lY P (.call ⟨.builtin .len,args,ts⟩) _ _ _
 unfold AaA at e
 split at e
 ·rename_i x t ha ht
  have hx:=hs.ev x
  split at e
  ·rename_i k g hm
   split at e
   ·rename_i e1 e2 g' ss xs hu ho
    split at e
    ·rename_i hg
     obtain rfl:=Nat.eq_of_beq_eq_true hg
     cases e
     rw [hm] at hx
     simp only [lY,ha,ht,hu,(hx.2 _ _ _ _ ho).2 rfl]
     exact hs.pst hp rfl
    ·cases e;exact hp.elim
   ·cases e;exact hp.elim
  ·cases e
 ·cases e
end
end Go.Proofs.YtoelhdjloaknbaaGreat
