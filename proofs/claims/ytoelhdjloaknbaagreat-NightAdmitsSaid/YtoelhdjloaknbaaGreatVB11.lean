/- What this claim rests on. -/
import Derived.Test.YtoelhdjloaknbaaGreatVB10
namespace Go.Proofs.YtoelhdjloaknbaaGreat
open Go.RowKit
def ldI (σ:Hp) (k:IntKind) (b off:Nat) (K:Int->Prop):Prop:=∃ n,σ.cell? ⟨b,off,none⟩=some (.int k n)/\K n
def ldB (σ:Hp) (b off:Nat) (K:Bool->Prop):Prop:=∃ x,σ.cell? ⟨b,off,none⟩=some (.bool x)/\K x
def ldP (σ:Hp) (b off:Nat) (K:aA->Prop):Prop:=∃ x,σ.cell? ⟨b,off,none⟩=some (.pointer x)/\K x
def ldS (σ:Hp) (b off:Nat) (K:aA->Nat->Nat->Prop):Prop:=∃ A n c,σ.cell? ⟨b,off,none⟩=some (.slice A n c)/\K A n c
def ldV (σ:Hp) (b off:Nat) (K:Value->Prop):Prop:=∃ v,σ.cell? ⟨b,off,none⟩=some v/\K v
def bx (σ:Hp) (o:Obj) (K:Nat->Hp->Prop):Prop:=∀ b,σ b=none->K b (σ.ins b o)
def st (σ:Hp) (b off:Nat) (v:Value) (K:Hp->Prop):Prop:=σ.wr ⟨b,off,none⟩/\K (σ.put ⟨b,off,none⟩ v)
def ix (A:aA) (n:Nat) (i:Int) (w:Nat) (K:Nat->Nat->Prop):Prop:=dr A fun b o=>0<=i/\i<(n:Int)/\K b (o+Mk i.toNat w)
def wk (k:IntKind) (e:Int) (K:Int->Prop):Prop:=K (k.wrap e)
def rgb (l:Nat) (Rec:RecT) (σ:Hp) (K:Hp->Prop):Prop:=σ l=some (Rec .ready none,true)/\K (σ.ins l (Rec .busy none))
def rgo (l:Nat) (Rec:RecT) (R:Value->Hp->Prop) (σ:Hp):Prop:=σ l=some (Rec .busy none,true)/\R (.bool true) (σ.ins l (Rec .ready none))
def rgx (l:Nat) (Rec:RecT) (R:Value->Hp->Prop) (σ:Hp) (c:Code):Prop:=σ l=some (Rec .busy none,true)/\R (.bool false) (σ.ins l (Rec .done (some c)))
def aft (p:Option Code) (N Rt:Prop) (Ex:Nat->Prop):Prop:=match p with
 | none=>N
 | some .ret=>Rt
 | some (.exit id)=>Ex id
 | _=>False
def exb (id k:Nat) (A B:Prop):Prop:=match Nat.beq id k with
 | true=>A
 | false=>B
def bk (σ:Hp) (n:Nat) (f:Nat->Hp->Prop):Prop:=∃ s'',Hp.Sub s'' σ/\∃ m,m<n/\f m s''
def rt (σ:Hp) (R:Value->Hp->Prop) (v:Value):Prop:=∃ σ',Hp.Sub σ' σ/\R v σ'
def cl (P:Program) (f:Value) (args:Array Value) (σ:Hp) (K:Value->Hp->Prop):Prop:=CC P f args σ K
def clr (P:Program) (ts:Array TypeId) (t:TypeId) (args:Array Value) (σ:Hp) (K:Hp->Prop):Prop:=
 swp P (Builtin.clear_ ts t args) (fun v σ'=>v=.tuple #[]/\K σ') σ
theorem bcd (p:Prop) [Decidable p] (A B:Prop):bc (decide p) A B↔(p->A)/\(¬ p->B):=by by_cases h:p<;>simp [bc,h]
theorem AgC (p:Prop) [Decidable p] (A B:Prop):bc (!decide p) A B↔(p->B)/\(¬ p->A):=by by_cases h:p<;>simp [bc,h]
theorem Ai {σ:Hp} {R:Value->Hp->Prop} {v:Value} (h:R v σ):rt σ R v:=⟨σ,Hp.Sub.refl _,h⟩
theorem BL {σ σ':Hp} {R:Value->Hp->Prop} {v:Value} (hs:Hp.Sub σ' σ) (h:R v σ'):rt σ R v:=⟨σ',hs,h⟩
theorem Adv {e:Int} (h:-9223372036854775808<=e/\e<=9223372036854775807):IntKind.i64.wrap e=e:=by
 have h1:IntKind.i64.wrap e=(e+9223372036854775808)%18446744073709551616-9223372036854775808:=by
  unfold IntKind.wrap
  simp [IntKind.signed,IntKind.bits]
  omega
 rw [h1]
 omega
theorem Ae8 {e:Int} {K:Int->Prop} (h:-9223372036854775808<=e/\e<=9223372036854775807):wk .i64 e K↔K e:=by
 unfold wk
 rw [Adv h]
theorem AbO (a:Array Value):XL #[] a #[]=a:=by cases a;simp [XL]
theorem Bd {P:Program} {g:FuncId} {args:Array Value} {σ:Hp} {R K:Value->Hp->Prop} (he:Aq P g=true) (h:Af P g args σ R) (hk:∀ v σ',R v σ'->K v σ'):cl P (.func (.func g) #[] #[]) args σ K:=
 CC.func he (by rw [AbO];exact h.mono hk)
theorem YX {α:Type} {xs:List α} {i:Nat} {K:α->Prop} (h:i<xs.length) (hk:K xs[i]):lat xs i K:=⟨h,hk⟩
theorem AX {σ:Hp} {n:Nat} {f:Nat->Hp->Prop} (m:Nat) (hm:m<n) (h:f m σ):bk σ n f:=⟨σ,Hp.Sub.refl _,m,hm,h⟩
theorem Zg {σ σ':Hp} {n:Nat} {f:Nat->Hp->Prop} (m:Nat) (hm:m<n) (hs:Hp.Sub σ' σ) (h:f m σ'):bk σ n f:=⟨σ',hs,m,hm,h⟩
theorem RdS.at1 {s:Sh} {σ:Hp} {A:aA} {n:Nat} {xs:List (TyR [s])} (h:RdS [s] σ A n xs) {i:Nat} (hi:i<xs.length):∃ b off,A=some ⟨b,off,none⟩/\σ.cell? ⟨b,off+i,none⟩=some (RN s xs[i]):=by
 obtain ⟨b,off,hA,hc⟩:=h.cell hi
 refine ⟨b,off,hA,?_⟩
 have:=hc 0 (by simp)
 simp only [List.length_cons,List.length_nil,Nat.zero_add,Nat.mul_one,Nat.add_zero] at this
 rw [this]
 rfl
theorem Ae7 {k:IntKind} {σ:Hp} {A:aA} {n:Nat} {xs:List Int} {i:Int} {K:Int->Prop} (h:RdS [.int k] σ A n xs) (hi:0<=i) (hn:i.toNat<xs.length) (hk:K xs[i.toNat]):ix A n i 1 fun b a=>ldI σ k b a K:=by
 have hl:n=xs.length:=h.1
 obtain ⟨b,off,rfl,hc⟩:=h.at1 hn
 refine ⟨hi,?_,xs[i.toNat],?_,hk⟩
 ·rw [hl];clear hc hk;omega
 ·exact hc
theorem Ae3 {σ:Hp} {A:aA} {n:Nat} {xs:List Bool} {i:Int} {K:Bool->Prop} (h:RdS [.bool] σ A n xs) (hi:0<=i) (hn:i.toNat<xs.length) (hk:K xs[i.toNat]):ix A n i 1 fun b a=>ldB σ b a K:=by
 have hl:n=xs.length:=h.1
 obtain ⟨b,off,rfl,hc⟩:=h.at1 hn
 refine ⟨hi,?_,xs[i.toNat],?_,hk⟩
 ·rw [hl];clear hc hk;omega
 ·exact hc
theorem AV {σ:Hp} {k:IntKind} {b off:Nat} {n:Int} {K:Int->Prop} (h:σ.cell? ⟨b,off,none⟩=some (.int k n)) (hk:K n):ldI σ k b off K:=⟨n,h,hk⟩
theorem YS {σ:Hp} {b off:Nat} {n:Bool} {K:Bool->Prop} (h:σ.cell? ⟨b,off,none⟩=some (.bool n)) (hk:K n):ldB σ b off K:=⟨n,h,hk⟩
theorem AfL {σ:Hp} {b off:Nat} {p:aA} {K:aA->Prop} (h:σ.cell? ⟨b,off,none⟩=some (.pointer p)) (hk:K p):ldP σ b off K:=⟨p,h,hk⟩
theorem CI {σ:Hp} {b off:Nat} {A:aA} {n c:Nat} {K:aA->Nat->Nat->Prop} (h:σ.cell? ⟨b,off,none⟩=some (.slice A n c)) (hk:K A n c):ldS σ b off K:=⟨A,n,c,h,hk⟩
theorem DC {ss:List Sh} {σ:Hp} {A:aA} {n:Nat} {xs:List (TyR ss)} {i:Int} {w:Nat} {K:Nat->Nat->Prop} (h:RdS ss σ A n xs) (hw:w=ss.length) (hi:0<=i) (hn:i.toNat<xs.length) (hk:∀ b o,(∀ j,j<ss.length->σ.cell? ⟨b,o+j,none⟩=(Cc ss xs[i.toNat])[j]?)->K b o):ix A n i w K:=by
 obtain ⟨b,off,rfl,hc⟩:=h.cell hn
 have:=h.1
 refine ⟨hi,by omega,?_⟩
 refine hk b _ fun j hj=>?_
 rw [← hc j hj,Cm,hw,Nat.add_assoc]
theorem Agl {A B:Prop} (h:A):bc true A B:=by simpa [bc] using h
theorem AeQ {A B:Prop} (h:B):bc false A B:=by simpa [bc] using h
theorem AfV {A B:Prop} (h:B):bc (!true) A B:=by simpa [bc] using h
theorem Az {p:Prop} [Decidable p] {A B:Prop} (h:p->A) (h':¬ p->B):bc (decide p) A B:=(bcd p A B).2 ⟨h,h'⟩
theorem Bs {p:Prop} [Decidable p] {A B:Prop} (h:¬ p->A) (h':p->B):bc (!decide p) A B:=(AgC p A B).2 ⟨h',h⟩
theorem BO {b:Bool} {A B:Prop} (h:b=true->A) (h':b=false->B):bc b A B:=by cases b<;>first | exact h rfl | exact h' rfl
theorem Bp {b:Bool} {A B:Prop} (h:b=false->A) (h':b=true->B):bc (!b) A B:=by cases b<;>first | exact h rfl | exact h' rfl
theorem AQ {e:Int} {K:Int->Prop} (h:-9223372036854775808<=e/\e<=9223372036854775807) (hk:K e):wk .i64 e K:=(Ae8 h).2 hk
theorem AF {b off:Nat} {k:Nat->Nat->Prop} (h:k b off):dr (some ⟨b,off,none⟩) k:=h
theorem AY {n:Nat} {p:Prop} (h:n<=4294967296) (hp:p):Bi n p:=⟨h,hp⟩
section
variable {P:Program} {g:FuncId} {args:Array Value} {σ:Hp}
theorem clB {b:Bool} {K:Bool->Hp->Prop} (he:Aq P g=true) (h:Af P g args σ fun u σ'=>u=.bool b/\σ'=σ) (hk:K b σ):cl P (.func (.func g) #[] #[]) args σ fun v σ'=>∃ t:Bool,(v=.bool t/\K t σ'):=
 Bd he h fun _ _ ⟨e1,e2⟩=>by subst e1;subst e2;exact ⟨b,rfl,hk⟩
theorem clI {b:Int} {K:Int->Hp->Prop} (he:Aq P g=true) (h:Af P g args σ fun u σ'=>u=.int .i64 b/\σ'=σ) (hk:K b σ):cl P (.func (.func g) #[] #[]) args σ fun v σ'=>∃ t:Int,(v=.int .i64 t/\K t σ'):=
 Bd he h fun _ _ ⟨e1,e2⟩=>by subst e1;subst e2;exact ⟨b,rfl,hk⟩
theorem Agu {b:Bool} {K:Bool->Hp->Prop} (he:Aq P g=true) (h:Af P g args σ fun u σ'=>u=.bool b/\σ'=σ) (hk:K b σ):cl P (.func (.func g) #[] #[]) args σ fun v σ'=>∃ t:Bool,(v=.bool t/\(Hp.Sub σ σ'/\K t σ')):=
 clB he h ⟨Hp.Sub.refl _,hk⟩
theorem Afd {b:Int} {K:Int->Hp->Prop} (he:Aq P g=true) (h:Af P g args σ fun u σ'=>u=.int .i64 b/\σ'=σ) (hk:K b σ):cl P (.func (.func g) #[] #[]) args σ fun v σ'=>∃ t:Int,(v=.int .i64 t/\(Hp.Sub σ σ'/\K t σ')):=
 clI he h ⟨Hp.Sub.refl _,hk⟩
def Abu (e:TypeId) (ss:List Sh) (σ:Hp) (xs:List (TyR ss)):Value->Hp->Prop:=fun v σ'=>∃ A n c,v=.slice A n c/\Aj e ss σ A n c xs σ'
end
theorem BX {e:TypeId} {ss:List Sh} {σ σ':Hp} {A:aA} {n c:Nat} {xs:List (TyR ss)} {K:List (TyR ss)->Hp->Prop} (h:Aj e ss σ A n c xs σ') (hk:K xs σ):adp e ss A n c σ' K:=⟨xs,σ,h,hk⟩
theorem Aj.RdI {e:TypeId} {k:IntKind} {σ σ':Hp} {A:aA} {n c:Nat} {xs:List Int} (h:Aj e [.int k] σ A n c xs σ'):RdS [.int k] σ' A n xs:=h.rd
theorem RdS.lenI {k:IntKind} {σ:Hp} {A:aA} {n:Nat} {xs:List Int} (h:RdS [.int k] σ A n xs):n=xs.length:=h.1
theorem AbP {σ:Hp} {b b':Nat} {o o':Obj} (h:b≠b'):(σ.ins b o).ins b' o'=(σ.ins b' o').ins b o:=by
 funext k
 unfold Hp.ins
 by_cases h1:k=b
 ·have h2:k≠b':=fun e=>h (h1.symm.trans e)
  rw [if_neg h2,if_pos h1,if_pos h1]
 ·by_cases h2:k=b'
  ·rw [if_pos h2,if_neg h1,if_pos h2]
  ·rw [if_neg h2,if_neg h1,if_neg h1,if_neg h2]
theorem XS {σ:Hp} {b k:Nat} {o:Obj} (h:σ.ins b o k=none):k≠b/\σ k=none:=by
 unfold Hp.ins at h
 split at h
 ·cases h
 ·rename_i hk;exact ⟨hk,h⟩
theorem Hp.Sub.none {σ σ':Hp} (h:Hp.Sub σ σ') {b:Nat} (hb:σ' b=none):σ b=none:=by
 cases e:σ b with
 | none=>rfl
 | some x=>have:=h _ _ e;rw [hb] at this;cases this
theorem Aj.ins_base {e:TypeId} {ss:List Sh} {σ σ':Hp} {A:aA} {n c:Nat} {xs:List (TyR ss)} (h:Aj e ss σ A n c xs σ') {b:Nat} (hb:σ' b=none) (o:Obj):Aj e ss (σ.ins b o) A n c xs (σ'.ins b o):=by
 rcases h with ⟨h1,h2,h3,h4,rfl⟩ | ⟨b',off,cells,hA,hn,hnc,hb',rfl,hs,hr⟩
 ·exact .inl ⟨h1,h2,h3,h4,rfl⟩
 ·obtain ⟨h1,h2⟩:=XS hb
  refine .inr ⟨b',off,cells,hA,hn,hnc,?_,AbP (fun e=>h1 e.symm),hs,hr⟩
  rw [Hp.ins_ne _ (fun e=>h1 e.symm)]
  exact hb'
theorem Aj.swap {e e':TypeId} {ss ss':List Sh} {σ s1 σ2:Hp} {A A':aA} {n c n' c':Nat} {xs:List (TyR ss)} {ys:List (TyR ss')} (h:Aj e ss σ A n c xs s1) (h':Aj e' ss' s1 A' n' c' ys σ2):∃ s1',Aj e' ss' σ A' n' c' ys s1'/\Aj e ss s1' A n c xs σ2:=by
 rcases h' with ⟨h1,h2,h3,h4,rfl⟩ | ⟨b',off,cells,hA,hn,hnc,hb',rfl,hs,hr⟩
 ·exact ⟨σ,.inl ⟨h1,h2,h3,h4,rfl⟩,h⟩
 ·exact ⟨_,.inr ⟨b',off,cells,hA,hn,hnc,h.sub.none hb',rfl,hs,hr⟩,h.ins_base hb' _⟩
theorem Aj.put {e:TypeId} {ss:List Sh} {σ σ' τ:Hp} {A:aA} {n c:Nat} {xs:List (TyR ss)} (h:Aj e ss σ A n c xs σ') (hs:Hp.Sub σ' τ) {i:Nat} (hi:i<xs.length):
  ∃ b off,A=some ⟨b,off,none⟩/\∀ j v r,setR ss xs[i] j v=some r->τ.wr ⟨b,off+(i*ss.length+j),none⟩/\∃ σ2,Aj e ss σ A n c (xs.set i r) σ2/\Hp.Sub σ2 (τ.put ⟨b,off+(i*ss.length+j),none⟩ v):=by
 rcases h with ⟨h1,h2,h3,rfl,rfl⟩ | ⟨b,off,cells,hA,hn,hnc,hb,rfl,hsz,hr⟩
 ·simp at hi
 ·refine ⟨b,off,hA,fun j v r hset=>?_⟩
  obtain ⟨hj,_,_⟩:=P2 hset
  have hlt:i*ss.length+j<c*ss.length:=RK (by omega) hj
  have hτ:τ b=some (.cells cells e (0,0),true):=hs _ _ (Hp.ins_same ..)
  refine ⟨⟨cells,e,hτ,show off+(i*ss.length+j)<cells.size by omega,rfl⟩,σ.ins b (.cells (cells.setIfInBounds (off+(i*ss.length+j)) v) e (0,0)),?_,?_⟩
  ·refine .inr ⟨b,off,_,hA,by simpa using hn,hnc,hb,rfl,by simpa using hsz,hr.set hi hset (by omega)⟩
  ·intro k x hk
   unfold Hp.ins at hk
   split at hk<;>rename_i hkb
   ·subst hkb
    rw [Hp.put_same hτ]
    exact hk
   ·rw [Hp.put_ne hkb]
    exact hs _ _ (by rw [Hp.ins_ne _ hkb];exact hk)
theorem Aj.ix_stI {e:TypeId} {σ σ' τ:Hp} {A:aA} {n c:Nat} {xs:List Int} {i v:Int} {K:Hp->Prop} (h:Aj e [.int .i64] σ A n c xs σ') (hs:Hp.Sub σ' τ) (hi:0<=i) (hn:i.toNat<xs.length)
  (hk:∀ σ2 t2,Aj e [.int .i64] σ A n c (xs.set i.toNat v) σ2->Hp.Sub σ2 t2->K t2):ix A n i 1 fun b a=>st τ b a (.int .i64 v) K:=by
 obtain ⟨b,off,rfl,hp⟩:=h.put hs hn
 have hl:n=xs.length:=h.len
 obtain ⟨hw,σ2,ho2,hs2⟩:=hp 0 (.int .i64 v) v rfl
 refine ⟨hi,by omega,?_,?_⟩
 ·simpa [Cm] using hw
 ·refine hk σ2 _ ho2 ?_
  simpa [Cm] using hs2
def AeD (h:Bool):List (Nat×OA×MPlan)->MPlan
 | []=>.done
 | (i,a,p)::r=>.alt i h a p (AeD h r)
def X8 (rest:MPlan) (h:Bool):Nat->List (Nat×OA)->MPlan
 | 0,_=>rest
 | k+1,cs=>AeD h ((List.range cs.length).map fun j=>((cs.getD j (0,⟨[],false,[]⟩)).1,(cs.getD j (0,⟨[],false,[]⟩)).2,X8 rest h k (cs.eraseIdx j)))
def Adp:List Prop->Prop
 | []=>True
 | [p]=>p
 | p::q::r=>p/\Adp (q::r)
def YT (X:Prop):Nat->List (Prop->Prop)->Prop
 | 0,_=>X
 | k+1,cs=>Adp ((List.range cs.length).map fun j=>cs.getD j id (YT X k (cs.eraseIdx j)))
theorem Xe:∀ {ps:List Prop},(∀ p∈ps,p)->Adp ps
 | [],_=>trivial
 | [_],h=>h _ (List.mem_cons_self ..)
 | _::_::_,h=>⟨h _ (List.mem_cons_self ..),Xe fun p hp=>h p (List.mem_cons_of_mem _ hp)⟩
theorem VX {X:Prop} (hX:X):∀ (n:Nat) (cs:List (Prop->Prop)),(∀ c∈cs,∀ K:Prop,K->c K)->YT X n cs
 | 0,_,_=>hX
 | n+1,cs,h=>Xe fun p hp=>by
  obtain ⟨j,hj,rfl⟩:=List.mem_map.1 hp
  have hj:=List.mem_range.1 hj
  have e:cs.getD j id=cs[j]:=by simp [List.getD,hj]
  rw [e]
  exact h _ (List.getElem_mem hj) _ (VX hX n _ fun c hc=>h c (List.mem_of_mem_eraseIdx hc))
abbrev aB:=Value->Hp->Prop
abbrev aC (n:Nat):=cl Tryz.prog (.func (.func n) #[] #[])
abbrev aD (n:Int):Value:=.int .i64 n
abbrev aF (r:Hp->Prop) (x:(Hp->Prop)->Prop):Prop:=cut (fun s=>∀ _:Nat->Value,r s) x
abbrev aG (r:Bool->Hp->Prop) (x:(Bool->Hp->Prop)->Prop):Prop:=cut (fun t s=>∀ _:Nat->Value,r t s) x
abbrev aH (r:Int->Hp->Prop) (x:(Int->Hp->Prop)->Prop):Prop:=cut (fun t s=>∀ _:Nat->Value,r t s) x
abbrev aI (K:Bool->Hp->Prop):Value->Hp->Prop:=fun v s=>∃ t:Bool,(v=.bool t/\K t s)
abbrev aJ (K:Int->Hp->Prop):Value->Hp->Prop:=fun v s=>∃ t:Int,(v=.int .i64 t/\K t s)
abbrev aK (K:aA->Nat->Nat->Hp->Prop):Value->Hp->Prop:=fun v s=>∃ A:aA,∃ l c:Nat,(v=.slice A l c/\K A l c s)
abbrev aL (K:aA->Nat->Nat->Int->Hp->Prop):Value->Hp->Prop:=fun v s=>∃ A:aA,∃ l c:Nat,∃ n:Int,(v=.tuple #[.slice A l c,.int .i64 n]/\K A l c n s)
abbrev aM:List Sh:=[.int .i64]
abbrev aN (A:aA) (n c:Nat):Value:=.slice A n c
def aU:List Nat:=[10,11,13,18,19,20,21,22,23,30,31,32,33,35,36,38,39,40,41,45,46,47,48,49,50,51,52,53,54,57,67,68,69,70,71,72,73,74,75,77,78,79,80,81,89,90,93,94,95,96,101,105,123,124,125,126,127,128,129,130,131,132,133,135,136,137,138,139,140,141,142,143,144,146,147,164,166,167,168,169,170,172,180,181,182,183,184,185,186,187,188,189,190,191,192,193,194,195,196,197,198,199,200,201,218,219,220,221,222,223,224,225,226,228,237,238,239,240,241,242,243,244,245,246,247,248,249,250,251,252,253,256,270,271,272,273,274,275,276,277,278,279,291]
theorem aV:(aU.all fun n=>Aq Tryz.prog n)=true:=by kernel_rfl
theorem aW (n:Nat) (h:aU.contains n=true:=by rfl):Aq Tryz.prog n=true:=List.all_eq_true.1 aV n (List.contains_iff_mem.1 h)
end Go.Proofs.YtoelhdjloaknbaaGreat
