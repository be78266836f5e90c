/- What this claim rests on. -/
import Derived.Test.YtoelhdjloaknbaaGreatUB10
namespace Go.Proofs.YtoelhdjloaknbaaGreat
open Go.RowKit
def ldI (σ:Hp) (k:IntKind) (b off:Nat) (K:Int->Prop):Prop:=∃ n,σ.cell? ⟨b,off,none⟩=some (.int k n)/\K n
def ldB (σ:Hp) (b off:Nat) (K:Bool->Prop):Prop:=∃ x,σ.cell? ⟨b,off,none⟩=some (.bool x)/\K x
def ldP (σ:Hp) (b off:Nat) (K:aA->Prop):Prop:=∃ x,σ.cell? ⟨b,off,none⟩=some (.pointer x)/\K x
def ldS (σ:Hp) (b off:Nat) (K:aA->Nat->Nat->Prop):Prop:=∃ A n c,σ.cell? ⟨b,off,none⟩=some (.slice A n c)/\K A n c
def ldV (σ:Hp) (b off:Nat) (K:Value->Prop):Prop:=∃ v,σ.cell? ⟨b,off,none⟩=some v/\K v
def bx (σ:Hp) (o:Obj) (K:Nat->Hp->Prop):Prop:=∀ b,σ b=none->K b (σ.ins b o)
def st (σ:Hp) (b off:Nat) (v:Value) (K:Hp->Prop):Prop:=σ.wr ⟨b,off,none⟩/\K (σ.put ⟨b,off,none⟩ v)
def ix (A:aA) (n:Nat) (i:Int) (w:Nat) (K:Nat->Nat->Prop):Prop:=dr A fun b o=>0<=i/\i<(n:Int)/\K b (o+KU i.toNat w)
def wk (k:IntKind) (e:Int) (K:Int->Prop):Prop:=K (k.wrap e)
def rgb (l:Nat) (Rec:RecT) (σ:Hp) (K:Hp->Prop):Prop:=σ l=some (Rec .ready none,true)/\K (σ.ins l (Rec .busy none))
def rgo (l:Nat) (Rec:RecT) (R:Value->Hp->Prop) (σ:Hp):Prop:=σ l=some (Rec .busy none,true)/\R (.bool true) (σ.ins l (Rec .ready none))
def rgx (l:Nat) (Rec:RecT) (R:Value->Hp->Prop) (σ:Hp) (c:Code):Prop:=σ l=some (Rec .busy none,true)/\R (.bool false) (σ.ins l (Rec .done (some c)))
def aft (p:Option Code) (N Rt:Prop) (Ex:Nat->Prop):Prop:=match p with
 | none=>N
 | some .ret=>Rt
 | some (.exit id)=>Ex id
 | _=>False
def exb (id k:Nat) (A B:Prop):Prop:=match Nat.beq id k with
 | true=>A
 | false=>B
def bk (σ:Hp) (n:Nat) (f:Nat->Hp->Prop):Prop:=∃ s'',Hp.Sub s'' σ/\∃ m,m<n/\f m s''
def rt (σ:Hp) (R:Value->Hp->Prop) (v:Value):Prop:=∃ σ',Hp.Sub σ' σ/\R v σ'
def cl (P:Program) (f:Value) (args:Array Value) (σ:Hp) (K:Value->Hp->Prop):Prop:=B7 P f args σ K
def clr (P:Program) (ts:Array TypeId) (t:TypeId) (args:Array Value) (σ:Hp) (K:Hp->Prop):Prop:=
 swp P (Builtin.clear_ ts t args) (fun v σ'=>v=.tuple #[]/\K σ') σ
theorem bcd (p:Prop) [Decidable p] (A B:Prop):bc (decide p) A B↔(p->A)/\(¬ p->B):=by by_cases h:p<;>simp [bc,h]
theorem AbO (p:Prop) [Decidable p] (A B:Prop):bc (!decide p) A B↔(p->B)/\(¬ p->A):=by by_cases h:p<;>simp [bc,h]
theorem Al {σ:Hp} {R:Value->Hp->Prop} {v:Value} (h:R v σ):rt σ R v:=⟨σ,Hp.Sub.refl _,h⟩
theorem Bm {σ σ':Hp} {R:Value->Hp->Prop} {v:Value} (hs:Hp.Sub σ' σ) (h:R v σ'):rt σ R v:=⟨σ',hs,h⟩
theorem Y0 {e:Int} (h:-9223372036854775808<=e/\e<=9223372036854775807):IntKind.i64.wrap e=e:=by
 have h1:IntKind.i64.wrap e=(e+9223372036854775808)%18446744073709551616-9223372036854775808:=by
  unfold IntKind.wrap
  simp [IntKind.signed,IntKind.bits]
  omega
 rw [h1]
 omega
theorem Aba {e:Int} {K:Int->Prop} (h:-9223372036854775808<=e/\e<=9223372036854775807):wk .i64 e K↔K e:=by
 unfold wk
 rw [Y0 h]
theorem Yt (a:Array Value):TO #[] a #[]=a:=by cases a;simp [TO]
theorem AW {P:Program} {g:FuncId} {args:Array Value} {σ:Hp} {R K:Value->Hp->Prop} (he:Ap P g=true) (h:Af P g args σ R) (hk:∀ v σ',R v σ'->K v σ'):cl P (.func (.func g) #[] #[]) args σ K:=
 B7.func he (by rw [Yt];exact h.mono hk)
theorem Aah {α:Type} {xs:List α} {i:Nat} {K:α->Prop} (h:i<xs.length) (hk:K xs[i]):lat xs i K:=⟨h,hk⟩
theorem Be {σ:Hp} {n:Nat} {f:Nat->Hp->Prop} (m:Nat) (hm:m<n) (h:f m σ):bk σ n f:=⟨σ,Hp.Sub.refl _,m,hm,h⟩
theorem Un {σ σ':Hp} {n:Nat} {f:Nat->Hp->Prop} (m:Nat) (hm:m<n) (hs:Hp.Sub σ' σ) (h:f m σ'):bk σ n f:=⟨σ',hs,m,hm,h⟩
theorem RdS.at1 {s:Sh} {σ:Hp} {A:aA} {n:Nat} {xs:List (TyR [s])} (h:RdS [s] σ A n xs) {i:Nat} (hi:i<xs.length):∃ b off,A=some ⟨b,off,none⟩/\σ.cell? ⟨b,off+i,none⟩=some (Ou s xs[i]):=by
 obtain ⟨b,off,hA,hc⟩:=h.cell hi
 refine ⟨b,off,hA,?_⟩
 have:=hc 0 (by simp)
 simp only [List.length_cons,List.length_nil,Nat.zero_add,Nat.mul_one,Nat.add_zero] at this
 rw [this]
 rfl
theorem Aas {k:IntKind} {σ:Hp} {A:aA} {n:Nat} {xs:List Int} {i:Int} {K:Int->Prop} (h:RdS [.int k] σ A n xs) (hi:0<=i) (hn:i.toNat<xs.length) (hk:K xs[i.toNat]):ix A n i 1 fun b a=>ldI σ k b a K:=by
 have hl:n=xs.length:=h.1
 obtain ⟨b,off,rfl,hc⟩:=h.at1 hn
 refine ⟨hi,?_,xs[i.toNat],?_,hk⟩
 ·rw [hl];clear hc hk;omega
 ·exact hc
theorem AV {σ:Hp} {k:IntKind} {b off:Nat} {n:Int} {K:Int->Prop} (h:σ.cell? ⟨b,off,none⟩=some (.int k n)) (hk:K n):ldI σ k b off K:=⟨n,h,hk⟩
theorem Xf {σ:Hp} {b off:Nat} {n:Bool} {K:Bool->Prop} (h:σ.cell? ⟨b,off,none⟩=some (.bool n)) (hk:K n):ldB σ b off K:=⟨n,h,hk⟩
theorem AaI {σ:Hp} {b off:Nat} {p:aA} {K:aA->Prop} (h:σ.cell? ⟨b,off,none⟩=some (.pointer p)) (hk:K p):ldP σ b off K:=⟨p,h,hk⟩
theorem Qj {σ:Hp} {b off:Nat} {A:aA} {n c:Nat} {K:aA->Nat->Nat->Prop} (h:σ.cell? ⟨b,off,none⟩=some (.slice A n c)) (hk:K A n c):ldS σ b off K:=⟨A,n,c,h,hk⟩
theorem Eg {ss:List Sh} {σ:Hp} {A:aA} {n:Nat} {xs:List (TyR ss)} {i:Int} {w:Nat} {K:Nat->Nat->Prop} (h:RdS ss σ A n xs) (hw:w=ss.length) (hi:0<=i) (hn:i.toNat<xs.length) (hk:∀ b o,(∀ j,j<ss.length->σ.cell? ⟨b,o+j,none⟩=(BO ss xs[i.toNat])[j]?)->K b o):ix A n i w K:=by
 obtain ⟨b,off,rfl,hc⟩:=h.cell hn
 have:=h.1
 refine ⟨hi,by omega,?_⟩
 refine hk b _ fun j hj=>?_
 rw [← hc j hj,Ce,hw,Nat.add_assoc]
theorem ZR {A B:Prop} (h:A):bc true A B:=by simpa [bc] using h
theorem Aa2 {A B:Prop} (h:B):bc false A B:=by simpa [bc] using h
theorem Abb {A B:Prop} (h:B):bc (!true) A B:=by simpa [bc] using h
theorem AF {p:Prop} [Decidable p] {A B:Prop} (h:p->A) (h':¬ p->B):bc (decide p) A B:=(bcd p A B).2 ⟨h,h'⟩
theorem BQ {p:Prop} [Decidable p] {A B:Prop} (h:¬ p->A) (h':p->B):bc (!decide p) A B:=(AbO p A B).2 ⟨h',h⟩
theorem C4 {b:Bool} {A B:Prop} (h:b=true->A) (h':b=false->B):bc b A B:=by cases b<;>first | exact h rfl | exact h' rfl
theorem B5 {b:Bool} {A B:Prop} (h:b=false->A) (h':b=true->B):bc (!b) A B:=by cases b<;>first | exact h rfl | exact h' rfl
theorem AS {e:Int} {K:Int->Prop} (h:-9223372036854775808<=e/\e<=9223372036854775807) (hk:K e):wk .i64 e K:=(Aba h).2 hk
theorem AG {b off:Nat} {k:Nat->Nat->Prop} (h:k b off):dr (some ⟨b,off,none⟩) k:=h
theorem AY {n:Nat} {p:Prop} (h:n<=4294967296) (hp:p):AZ n p:=⟨h,hp⟩
section
variable {P:Program} {g:FuncId} {args:Array Value} {σ:Hp}
theorem clB {b:Bool} {K:Bool->Hp->Prop} (he:Ap P g=true) (h:Af P g args σ fun u σ'=>u=.bool b/\σ'=σ) (hk:K b σ):cl P (.func (.func g) #[] #[]) args σ fun v σ'=>∃ t:Bool,(v=.bool t/\K t σ'):=
 AW he h fun _ _ ⟨e1,e2⟩=>by subst e1;subst e2;exact ⟨b,rfl,hk⟩
theorem clI {b:Int} {K:Int->Hp->Prop} (he:Ap P g=true) (h:Af P g args σ fun u σ'=>u=.int .i64 b/\σ'=σ) (hk:K b σ):cl P (.func (.func g) #[] #[]) args σ fun v σ'=>∃ t:Int,(v=.int .i64 t/\K t σ'):=
 AW he h fun _ _ ⟨e1,e2⟩=>by subst e1;subst e2;exact ⟨b,rfl,hk⟩
theorem AbB {b:Int} {K:Int->Hp->Prop} (he:Ap P g=true) (h:Af P g args σ fun u σ'=>u=.int .i64 b/\σ'=σ) (hk:K b σ):cl P (.func (.func g) #[] #[]) args σ fun v σ'=>∃ t:Int,(v=.int .i64 t/\(Hp.Sub σ σ'/\K t σ')):=
 clI he h ⟨Hp.Sub.refl _,hk⟩
def ZF (e:TypeId) (ss:List Sh) (σ:Hp) (xs:List (TyR ss)):Value->Hp->Prop:=fun v σ'=>∃ A n c,v=.slice A n c/\Ak e ss σ A n c xs σ'
end
theorem CH {e:TypeId} {ss:List Sh} {σ σ':Hp} {A:aA} {n c:Nat} {xs:List (TyR ss)} {K:List (TyR ss)->Hp->Prop} (h:Ak e ss σ A n c xs σ') (hk:K xs σ):adp e ss A n c σ' K:=⟨xs,σ,h,hk⟩
theorem Ak.RdI {e:TypeId} {k:IntKind} {σ σ':Hp} {A:aA} {n c:Nat} {xs:List Int} (h:Ak e [.int k] σ A n c xs σ'):RdS [.int k] σ' A n xs:=h.rd
theorem RdS.lenI {k:IntKind} {σ:Hp} {A:aA} {n:Nat} {xs:List Int} (h:RdS [.int k] σ A n xs):n=xs.length:=h.1
theorem Yc {σ:Hp} {b b':Nat} {o o':Obj} (h:b≠b'):(σ.ins b o).ins b' o'=(σ.ins b' o').ins b o:=by
 funext k
 unfold Hp.ins
 by_cases h1:k=b
 ·have h2:k≠b':=fun e=>h (h1.symm.trans e)
  rw [if_neg h2,if_pos h1,if_pos h1]
 ·by_cases h2:k=b'
  ·rw [if_pos h2,if_neg h1,if_pos h2]
  ·rw [if_neg h2,if_neg h1,if_neg h1,if_neg h2]
theorem Tb {σ:Hp} {b k:Nat} {o:Obj} (h:σ.ins b o k=none):k≠b/\σ k=none:=by
 unfold Hp.ins at h
 split at h
 ·cases h
 ·rename_i hk;exact ⟨hk,h⟩
theorem Hp.Sub.none {σ σ':Hp} (h:Hp.Sub σ σ') {b:Nat} (hb:σ' b=none):σ b=none:=by
 cases e:σ b with
 | none=>rfl
 | some x=>have:=h _ _ e;rw [hb] at this;cases this
theorem Ak.ins_base {e:TypeId} {ss:List Sh} {σ σ':Hp} {A:aA} {n c:Nat} {xs:List (TyR ss)} (h:Ak e ss σ A n c xs σ') {b:Nat} (hb:σ' b=none) (o:Obj):Ak e ss (σ.ins b o) A n c xs (σ'.ins b o):=by
 rcases h with ⟨h1,h2,h3,h4,rfl⟩ | ⟨b',off,cells,hA,hn,hnc,hb',rfl,hs,hr⟩
 ·exact .inl ⟨h1,h2,h3,h4,rfl⟩
 ·obtain ⟨h1,h2⟩:=Tb hb
  refine .inr ⟨b',off,cells,hA,hn,hnc,?_,Yc (fun e=>h1 e.symm),hs,hr⟩
  rw [Hp.ins_ne _ (fun e=>h1 e.symm)]
  exact hb'
theorem Ak.swap {e e':TypeId} {ss ss':List Sh} {σ s1 σ2:Hp} {A A':aA} {n c n' c':Nat} {xs:List (TyR ss)} {ys:List (TyR ss')} (h:Ak e ss σ A n c xs s1) (h':Ak e' ss' s1 A' n' c' ys σ2):∃ s1',Ak e' ss' σ A' n' c' ys s1'/\Ak e ss s1' A n c xs σ2:=by
 rcases h' with ⟨h1,h2,h3,h4,rfl⟩ | ⟨b',off,cells,hA,hn,hnc,hb',rfl,hs,hr⟩
 ·exact ⟨σ,.inl ⟨h1,h2,h3,h4,rfl⟩,h⟩
 ·exact ⟨_,.inr ⟨b',off,cells,hA,hn,hnc,h.sub.none hb',rfl,hs,hr⟩,h.ins_base hb' _⟩
theorem Ak.put {e:TypeId} {ss:List Sh} {σ σ' τ:Hp} {A:aA} {n c:Nat} {xs:List (TyR ss)} (h:Ak e ss σ A n c xs σ') (hs:Hp.Sub σ' τ) {i:Nat} (hi:i<xs.length):
  ∃ b off,A=some ⟨b,off,none⟩/\∀ j v r,setR ss xs[i] j v=some r->τ.wr ⟨b,off+(i*ss.length+j),none⟩/\∃ σ2,Ak e ss σ A n c (xs.set i r) σ2/\Hp.Sub σ2 (τ.put ⟨b,off+(i*ss.length+j),none⟩ v):=by
 rcases h with ⟨h1,h2,h3,rfl,rfl⟩ | ⟨b,off,cells,hA,hn,hnc,hb,rfl,hsz,hr⟩
 ·simp at hi
 ·refine ⟨b,off,hA,fun j v r hset=>?_⟩
  obtain ⟨hj,_,_⟩:=MW hset
  have hlt:i*ss.length+j<c*ss.length:=Oc (by omega) hj
  have hτ:τ b=some (.cells cells e (0,0),true):=hs _ _ (Hp.ins_same ..)
  refine ⟨⟨cells,e,hτ,show off+(i*ss.length+j)<cells.size by omega,rfl⟩,σ.ins b (.cells (cells.setIfInBounds (off+(i*ss.length+j)) v) e (0,0)),?_,?_⟩
  ·refine .inr ⟨b,off,_,hA,by simpa using hn,hnc,hb,rfl,by simpa using hsz,hr.set hi hset (by omega)⟩
  ·intro k x hk
   unfold Hp.ins at hk
   split at hk<;>rename_i hkb
   ·subst hkb
    rw [Hp.put_same hτ]
    exact hk
   ·rw [Hp.put_ne hkb]
    exact hs _ _ (by rw [Hp.ins_ne _ hkb];exact hk)
theorem Ak.ix_stI {e:TypeId} {σ σ' τ:Hp} {A:aA} {n c:Nat} {xs:List Int} {i v:Int} {K:Hp->Prop} (h:Ak e [.int .i64] σ A n c xs σ') (hs:Hp.Sub σ' τ) (hi:0<=i) (hn:i.toNat<xs.length)
  (hk:∀ σ2 t2,Ak e [.int .i64] σ A n c (xs.set i.toNat v) σ2->Hp.Sub σ2 t2->K t2):ix A n i 1 fun b a=>st τ b a (.int .i64 v) K:=by
 obtain ⟨b,off,rfl,hp⟩:=h.put hs hn
 have hl:n=xs.length:=h.len
 obtain ⟨hw,σ2,ho2,hs2⟩:=hp 0 (.int .i64 v) v rfl
 refine ⟨hi,by omega,?_,?_⟩
 ·simpa [Ce] using hw
 ·refine hk σ2 _ ho2 ?_
  simpa [Ce] using hs2
abbrev aB:=Value->Hp->Prop
abbrev aC (n:Nat):=cl Tryz.prog (.func (.func n) #[] #[])
abbrev aD (n:Int):Value:=.int .i64 n
abbrev aF (r:Hp->Prop) (x:(Hp->Prop)->Prop):Prop:=cut (fun s=>∀ _:Nat->Value,r s) x
abbrev aG (r:Bool->Hp->Prop) (x:(Bool->Hp->Prop)->Prop):Prop:=cut (fun t s=>∀ _:Nat->Value,r t s) x
abbrev aH (r:Int->Hp->Prop) (x:(Int->Hp->Prop)->Prop):Prop:=cut (fun t s=>∀ _:Nat->Value,r t s) x
abbrev aI (K:Bool->Hp->Prop):Value->Hp->Prop:=fun v s=>∃ t:Bool,(v=.bool t/\K t s)
abbrev aJ (K:Int->Hp->Prop):Value->Hp->Prop:=fun v s=>∃ t:Int,(v=.int .i64 t/\K t s)
abbrev aK (K:aA->Nat->Nat->Hp->Prop):Value->Hp->Prop:=fun v s=>∃ A:aA,∃ l c:Nat,(v=.slice A l c/\K A l c s)
abbrev aL (K:aA->Nat->Nat->Int->Hp->Prop):Value->Hp->Prop:=fun v s=>∃ A:aA,∃ l c:Nat,∃ n:Int,(v=.tuple #[.slice A l c,.int .i64 n]/\K A l c n s)
abbrev aM:List Sh:=[.int .i64]
abbrev aN (A:aA) (n c:Nat):Value:=.slice A n c
def aT:List Nat:=[10,11,13,18,19,20,23,30,31,32,33,35,36,38,45,46,47,48,49,50,51,54,67,68,69,70,71,72,73,74,75,89,90,93,94,95,105,123,124,125,126,127,128,129,130,131,132,133,146,147,166,167,168,169,170,172,180,181,182,183,184,185,186,187,188,189,190,191,192,193,194,195,196,222,223,224,225,226,228,237,238,239,240,241,242,243,244,245,246,247,248,249,250,251,256,270,271,272,273,274,275,276,277,291]
theorem aU:(aT.all fun n=>Ap Tryz.prog n)=true:=by kernel_rfl
theorem aV (n:Nat) (h:aT.contains n=true:=by rfl):Ap Tryz.prog n=true:=List.all_eq_true.1 aU n (List.contains_iff_mem.1 h)
end Go.Proofs.YtoelhdjloaknbaaGreat
