/- Trimmed by wip/trim.py to what this claim rests on. -/
import Derived.Test.YthhadkggldcolaaGreatVNa4
namespace Go.Proofs.YthhadkggldcolaaGreat
set_option maxRecDepth 100000
open Go.RowKit
structure OW (es:List Ent):Prop where
 n:es.length<=100
 d:∀ x∈es,0<=x.1/\x.1<=10000
 s:∀ x∈es,x.2.1=2->1<=x.2.2.2.1/\x.2.2.2.1<=3
 o:es.Pairwise fun x y=>x.1<=y.1
theorem Tl {es:List Ent} {j:Nat} (hj:j<es.length):Qi (es.take (j+1))=es[j].1:=by
 unfold Qi
 have hl:(es.take (j+1)).length=j+1:=by simp;omega
 rw [hl,if_pos (by omega)]
 have e:((j+1:Nat):Int)-1=(j:Nat):=by omega
 rw [e,En (by rw [hl,Int.toNat_natCast];omega)]
 simp
theorem Bok.chk_es {b:Bok} {es:List Ent} (h:(b.chk es).2=0):OW es:=by
 obtain ⟨_,hn,hr⟩:=Bok.chk_ok h
 have hin:∀ j,(hj:j<es.length)->Qi (es.take j)<=es[j].1/\es[j].1<=10000/\(es[j].2.1=2->1<=es[j].2.2.2.1/\es[j].2.2.2.1<=3):=by
  intro j hj
  have h1:=hr j hj
  rw [En (by simpa using hj)] at h1
  simp only [Int.toNat_natCast] at h1
  unfold Bok.rgt at h1
  rw [Bool.and_eq_true] at h1
  refine ⟨(K1 h1.1).1,(K1 h1.1).2,fun e=>?_⟩
  have h2:=h1.2
  rw [if_neg (by rw [e];decide),if_pos e] at h2
  simp only [Bool.and_eq_true] at h2
  exact K1 h2.1.2
 have h0:∀ j,(hj:j<es.length)->0<=es[j].1:=by
  intro j
  induction j with
  | zero=>intro hj;have:=(hin 0 hj).1;simpa [Qi] using this
  | succ j ih=>
   intro hj
   have h1:=(hin (j+1) hj).1
   rw [Tl (by omega)] at h1
   have:=ih (by omega)
   omega
 refine ⟨hn,fun x hx=>?_,fun x hx=>?_,?_⟩
 ·obtain ⟨j,hj,rfl⟩:=List.mem_iff_getElem.1 hx
  exact ⟨h0 j hj,(hin j hj).2.1⟩
 ·obtain ⟨j,hj,rfl⟩:=List.mem_iff_getElem.1 hx
  exact (hin j hj).2.2
 ·rw [List.pairwise_iff_getElem]
  intro i j hi hj hij
  have:∀ d,(hd:i+d<es.length)->es[i].1<=es[i+d].1:=by
   intro d
   induction d with
   | zero=>intro _;exact Int.le_refl _
   | succ d ih=>
    intro hd
    have h1:=(hin (i+d+1) hd).1
    rw [Tl (by omega)] at h1
    have:=ih (by omega)
    have e:i+(d+1)=i+d+1:=by omega
    simp only [e]
    omega
  have:=this (j-i) (by omega)
  have e:i+(j-i)=j:=by omega
  simp only [e] at this
  exact this
theorem OW.take {es:List Ent} (h:OW es) (k:Nat):OW (es.take k):=
 ⟨by rw [List.length_take];have:=h.n;omega,fun x hx=>h.d x (List.mem_of_mem_take hx),fun x hx=>h.s x (List.mem_of_mem_take hx),h.o.sublist (List.take_sublist _ _)⟩
theorem AbQ {α:Type} {f:Ent->Option α} {d:α} (es:List Ent):scn f d es=d∨∃ x∈es,f x=some (scn f d es):=by
 refine Vo (P:=fun es=>scn f d es=d∨∃ x∈es,f x=some (scn f d es)) (.inl rfl) (fun xs x ih=>?_) es
 rw [Jp]
 cases e:f x with
 | some a=>exact .inr ⟨x,by simp,by simp [e]⟩
 | none=>
  rcases ih with h | ⟨y,hy,h⟩
  ·exact .inl (by simpa using h)
  ·exact .inr ⟨y,by simp [hy],by simpa using h⟩
theorem Abj {es:List Ent} (h:OW es) {p:Ent->Bool} {ride:Int}:-1<=lst p ride es/\lst p ride es<=10000:=by
 unfold lst
 rcases AbQ (f:=F0 p ride) (d:=-1) es with e | ⟨x,hx,e⟩
 ·omega
 ·have:=h.d x hx
  generalize scn (F0 p ride) (-1) es=z at *
  unfold F0 at e
  split at e
  ·cases e;omega
  ·split at e
   ·cases e;omega
   ·cases e
def ckP (i:Int) (x:Ent):Bool:=decide (x.2.1=1)&&decide (x.2.2.1=i)
def tsP (ride:Int) (x:Ent):Bool:=decide (x.2.1=4)&&decide (x.2.2.1=ride)
def Bok.unt (b:Bok) (es:List Ent) (i:Int):Int:=if lst (ckP i) (b.ru i).1 es<0 then -1 else lst (ckP i) (b.ru i).1 es+(b.ru i).2.1-1
def I2 (es:List Ent) (k:Nat):List Int:=((List.range k).filter fun i:Nat=>decide ((enA es (i:Nat)).2.1=2) && !mnd es (i:Nat)).map fun i:Nat=>(i:Int)
def opn (es:List Ent):List Int:=I2 es es.length
def Bok.ckd (b:Bok) (es:List Ent) (ride:Int):Nat->Int
 | 0=>10000
 | k+1=>if (b.ru (k:Nat)).1=ride then (if b.unt es (k:Nat)<b.ckd es ride k then b.unt es (k:Nat) else b.ckd es ride k) else b.ckd es ride k
def svP (es:List Ent) (ride s i:Int):Bool:=decide ((enA es i).2.2.1=ride)&&decide ((enA es i).2.2.2.1=s)
def svN (es:List Ent) (ride:Int) (l:List Int) (s:Int):Int:=((l.filter (svP es ride s)).length:Nat)
def Jt (es:List Ent) (ride:Int):Bool:=decide (svN es ride (opn es) 3=0)&&decide (svN es ride (opn es) 2<=1)
def MM (ride:Int) (x:Ent):Option Int:=if x.2.1=5/\x.2.2.1=ride then some x.2.2.2.1 else none
def Bok.ins (b:Bok) (es:List Ent) (ride:Int):Int:=scn (MM ride) (gt b.I ride) es
theorem Bok.ruOK {b:Bok} (hb:b.ok=true) {i:Int} (h0:0<=i) (h1:i<b.R.length):1<=(b.ru i).2.1/\(b.ru i).2.1<=10000:=by
 have:=(Bok.ok_spec hb).2.2.2.1 (b.ru i) (by rw [Bok.ru_eq (by omega)];exact List.getElem_mem _)
 unfold Bok.rulOK at this
 simp only [Bool.and_eq_true] at this
 exact K1 this.1.2
theorem UK {es:List Ent} {k:Nat}:I2 es (k+1)=if (enA es (k:Nat)).2.1=2/\mnd es (k:Nat)=false then I2 es k++[(k:Int)] else I2 es k:=by
 unfold I2
 rw [List.range_succ,List.filter_append,List.map_append]
 by_cases h:(enA es (k:Nat)).2.1=2
 ·cases e:mnd es (k:Nat)<;>simp [h,e]
 ·simp [h]
theorem Tp (es:List Ent) (k:Nat):(I2 es k).length<=k:=by
 unfold I2
 rw [List.length_map]
 exact Nat.le_trans (List.length_filter_le _ _) (by simp)
theorem Adk {es:List Ent} {i:Int} (h:i∈opn es):0<=i/\i<es.length/\(enA es i).2.1=2:=by
 unfold opn I2 at h
 rw [List.mem_map] at h
 obtain ⟨j,hj,rfl⟩:=h
 rw [List.mem_filter,List.mem_range] at hj
 simp only [Bool.and_eq_true,decide_eq_true_eq] at hj
 exact ⟨by omega,by omega,hj.2.1⟩
def Xq (f:Int->Int):Obj:=.cells #[.int .i64 (f 0),.int .i64 (f 1),.int .i64 (f 2),.int .i64 (f 3)] 253 (0,0)
section
variable {σ:Hp} {w:BkW} {E:SL} {b:Bok} {es:List Ent}
theorem AcI (h:LgR σ w E b es) (hb:b.ok=true) (he:OW es) {i:Int} (h0:0<=i) (h1:i<b.R.length):Af Tryz.prog NP #[lgV w E,.int .i64 i] σ fun v σ'=>v=.int .i64 (b.unt es i)/\σ'=σ:=by
 refine Ky _ _ _ _ _ _ _ _ _ _ _ _ _ _ _ ?_
 unfold DI
 have hn:=he.n
 refine XM h.b.r h0 (by omega) ?_
 intro b4 n4
 have hs:Hp.Sub σ (σ.ins b4 (.cells #[.int .i64 i] 3)):=Hp.Sub.ins _ n4
 refine clI DQ (Abz (p:=ckP i) (h.sub hs) (by omega) rfl fun τ hτ x _=>?_) ?_
 ·refine Cy.func GK (IN _ _ _ _ _ _ _ _ ?_)
  unfold C2
  refine AA (fun e=>AD (Bs (hτ _ _ (Hp.ins_same ..)) rfl (Ah ⟨?_,rfl⟩))) (fun e=>Ah ⟨?_,rfl⟩)
  ·simp [ckP,e]
  ·simp [ckP,e]
 ·have hr:=Bok.ruOK hb h0 h1
  have hd:=Abj he (p:=ckP i) (ride:=(b.ru i).1)
  refine AA (fun e=>BM hs ⟨?_,rfl⟩) (fun e=>Bs (Hp.ins_same ..) rfl (AaS (h.b.sub hs).r h0 (by omega) (AT (by omega) (AT (by omega) (BM hs ⟨?_,rfl⟩)))))
  ·unfold Bok.unt;rw [if_pos e]
  ·unfold Bok.unt;rw [if_neg e]
theorem ZX (h:LgR σ w E b es) (hb:b.ok=true) (he:OW es) {ride:Int}:Af Tryz.prog Lx #[lgV w E,.int .i64 ride] σ fun v σ'=>v=.int .i64 (b.ckd es ride b.R.length)/\σ'=σ:=by
 refine Io _ _ _ _ _ _ _ _ _ _ _ _ _ _ _ ?_
 unfold C7
 have hrn:=h.b.rn
 have h20:=(Bok.ok_spec hb).1
 refine Ad fun J3 h3=>?_
 refine ⟨fun m d i τ=>∃ k:Nat,m=b.R.length-k/\i=k/\k<=b.R.length/\τ=σ/\d=b.ckd es ride k,⟨_,0,rfl,rfl,by omega,rfl,rfl⟩,?_⟩
 rintro m d i τ ⟨k,rfl,rfl,hk,rfl,rfl⟩ _
 refine AA (fun hlt=>?_) (fun hlt=>?_)
 ·have hkl:k<b.R.length:=by omega
  refine Ad fun J13 h13=>Zh h.b.r (by omega) (by omega) fun r hr=>?_
  have k13:J13 (b.ckd es ride (k+1)) τ:=by
   rw [h13]
   intro _
   exact AT (by omega) (A0 _ (by omega) ⟨k+1,rfl,by omega,by omega,rfl,rfl⟩)
  have er:b.ru (k:Nat)=r:=by rw [Bok.ru_eq (by simpa using hkl)];exact hr
  have es':b.ckd es ride (k+1)=if (b.ru (k:Nat)).1=ride then (if b.unt es (k:Nat)<b.ckd es ride k then b.unt es (k:Nat) else b.ckd es ride k) else b.ckd es ride k:=rfl
  rw [es',er] at k13
  refine AA (fun e=>clI HG (AcI h hb he (by omega) (by omega)) ?_) (fun e=>?_)
  ·rw [if_pos e] at k13;exact k13
  ·rw [if_neg e] at k13;exact k13
 ·obtain rfl:k=b.R.length:=by omega
  rw [h3]
  intro _
  exact Ah ⟨rfl,rfl⟩
theorem Aeg (h:LgR σ w E b es) (he:OW es):Af Tryz.prog Ox #[lgV w E] σ (Aam 3 [.int .i64] σ (opn es)):=by
 refine Ly _ _ _ _ _ _ _ _ _ _ _ _ _ _ ?_
 unfold Eg
 have hen:E.n=es.length:=h.e.1
 have hn:=he.n
 refine Ad fun J3 h3=>?_
 refine ⟨fun m A n c i τ=>∃ k:Nat,m=es.length-k/\i=k/\k<=es.length/\Ai 3 [.int .i64] σ A n c (I2 es k) τ,⟨_,0,rfl,rfl,by omega,Ai.nil ..⟩,?_⟩
 rintro m A n c i τ ⟨k,rfl,rfl,hk,ho⟩ _
 have hs:=ho.sub
 refine AA (fun hlt=>?_) (fun hlt=>?_)
 ·have hkl:k<es.length:=by omega
  refine Ad fun J13 h13=>UY (h.e.sub hs) (by omega) (by omega) fun r hr=>?_
  have k13:∀ A n c τ',Ai 3 [.int .i64] σ A n c (I2 es (k+1)) τ'->J13 A n c τ':=by
   intro A n c τ' ho'
   rw [h13]
   intro _
   exact AT (by omega) (A0 _ (by omega) ⟨k+1,rfl,by omega,by omega,ho'⟩)
  have er:enA es (k:Nat)=r:=by rw [En (by simpa using hkl)];exact hr
  refine Ad fun J27 h27=>?_
  have k27:∀ t,t=(decide (r.2.1=2) && !mnd es (k:Nat))->J27 t τ:=by
   rintro t rfl
   rw [h27]
   intro _
   have e1:=UK (es:=es) (k:=k)
   rw [er] at e1
   refine BI (fun e=>BR ho (Bb (by show (I2 es k).length+1<=_;have:=Tp es k;omega) ?_)) (fun e=>k13 _ _ _ _ ?_)
   ·intro A' n' c' τ' ho'
    refine k13 _ _ _ _ ?_
    rw [e1,if_pos (by simpa using e)]
    exact ho'
   ·rw [e1,if_neg (by simpa using e)]
    exact ho
  refine AA (fun e=>clB Dk (Xg (h.sub hs) (by omega)) (k27 _ ?_)) (fun e=>k27 _ ?_)
  ·simp [e]
  ·simp [e]
 ·obtain rfl:k=es.length:=by omega
  rw [h3]
  intro _
  exact Ah ⟨_,_,_,rfl,ho⟩
theorem TV {l:List Int} {ride x s:Int}:svN es ride (l++[x]) s=if svP es ride s x then svN es ride l s+1 else svN es ride l s:=by
 unfold svN
 rw [List.filter_append]
 cases e:svP es ride s x<;>simp [e]
theorem Yd {l:List Int} {ride s:Int}:0<=svN es ride l s/\svN es ride l s<=l.length:=by
 unfold svN
 have:=List.length_filter_le (svP es ride s) l
 omega
theorem Aeo {b1:Nat} {f:Int->Int} {σ1 τ:Hp} {K:Int->Prop} {s:Int} (h:s=1∨s=2∨s=3) (hB:Blk b1 (Xq f) σ σ1) (hs:Hp.Sub σ1 τ) (hk:K (f s)):ix (some ⟨b1,0,none⟩) 4 s 1 fun b a=>ldI τ .i64 b a K:=by
 have hg:=hs _ _ hB.get
 rcases h with rfl | rfl | rfl
 ·exact ⟨by decide,by decide,Bs (k:=1) hg rfl hk⟩
 ·exact ⟨by decide,by decide,Bs (k:=2) hg rfl hk⟩
 ·exact ⟨by decide,by decide,Bs (k:=3) hg rfl hk⟩
theorem AeA {b1:Nat} {f g:Int->Int} {σ1 τ:Hp} {K:Hp->Prop} {s v:Int} {A:Option Addr} {n c:Nat} {xs:List Int} (h:s=1∨s=2∨s=3) (hB:Blk b1 (Xq f) σ σ1) (ho:Ai 3 [.int .i64] σ1 A n c xs τ) (hg:∀ i,g i=if i=s then v else f i)
  (hk:∀ σ2 τ',Blk b1 (Xq g) σ σ2->Ai 3 [.int .i64] σ2 A n c xs τ'->K τ'):ix (some ⟨b1,0,none⟩) 4 s 1 fun b a=>st τ b a (.int .i64 v) K:=by
 have hb:=ho.sub _ _ hB.get
 have hcon:∀ i:Nat,i<4->(i:Int)=s->(#[Value.int .i64 (f 0),.int .i64 (f 1),.int .i64 (f 2),.int .i64 (f 3)].setIfInBounds i (.int .i64 v))=#[.int .i64 (g 0),.int .i64 (g 1),.int .i64 (g 2),.int .i64 (g 3)]->st τ b1 i (.int .i64 v) K:=by
  intro i hi he e
  refine ⟨MB hb (by simpa using hi),?_⟩
  have e2:=FJ (k:=i) (v:=.int .i64 v) hb
  rw [e2,e]
  exact hk _ _ hB.again (Ar.own.again ho hB.get (Xq g))
 rcases h with rfl | rfl | rfl
 ·refine ⟨by decide,by decide,hcon 1 (by omega) rfl ?_⟩
  rw [hg,hg,hg,hg];rfl
 ·refine ⟨by decide,by decide,hcon 2 (by omega) rfl ?_⟩
  rw [hg,hg,hg,hg];rfl
 ·refine ⟨by decide,by decide,hcon 3 (by omega) rfl ?_⟩
  rw [hg,hg,hg,hg];rfl
theorem AcJ (h:LgR σ w E b es) (he:OW es) {ride:Int}:Af Tryz.prog Np #[lgV w E,.int .i64 ride] σ fun v σ'=>v=.bool (Jt es ride)/\σ'=σ:=by
 refine Ke _ _ _ _ _ _ _ _ _ _ _ _ _ _ _ ?_
 unfold DG
 intro b1 n1
 have hB0:Blk b1 (Xq (svN es ride [])) σ _:=⟨n1,rfl⟩
 have hn:=he.n
 refine Ad fun J5 h5=>?_
 have k5:∀ τ,Lse (Blk b1 (Xq (svN es ride (opn es)))) σ τ->J5 τ:=by
  intro τ hB
  rw [h5]
  intro _
  obtain ⟨τ1,hB1,hs1⟩:=hB
  have hg:=hs1 _ _ hB1.get
  have hs:=hB1.nin.trans hs1
  refine ⟨by decide,by decide,Bs (k:=3) hg rfl (AA (fun e=>⟨by decide,by decide,Bs (k:=2) hg rfl (BM hs ⟨?_,rfl⟩)⟩) (fun e=>BM hs ⟨?_,rfl⟩))⟩
  ·simp [Jt,e]
  ·simp [Jt,e]
 refine Be IS (Aeg (h.sub hB0.nin) he) ?_
 rintro v σ13 ⟨A,n,c,rfl,ho⟩
 have hol:(opn es).length<=es.length:=Tp es es.length
 have hon:n=(opn es).length:=ho.len
 refine ⟨_,_,_,rfl,?_⟩
 clear h5
 refine ⟨fun m i τ=>∃ (k:Nat) (σ1:Hp),m=(opn es).length-k/\i=k/\k<=(opn es).length/\Blk b1 (Xq (svN es ride ((opn es).take k))) σ σ1/\Ai 3 [.int .i64] σ1 A n c (opn es) τ,⟨_,0,_,rfl,rfl,by omega,hB0,ho⟩,?_⟩
 clear hB0 ho σ13
 rintro m i τ ⟨k,σ1,rfl,rfl,hk,hB,ho⟩ _
 have hs:=hB.nin.trans ho.sub
 refine AA (fun hlt=>?_) (fun hlt=>?_)
 ·have hkl:k<(opn es).length:=by omega
  obtain ⟨g0,g1,g2⟩:=Adk (List.getElem_mem hkl)
  refine Ad fun J22 h22=>Cx ho.rd (by omega) (by omega) ?_
  rw [Cd hkl]
  have e1:svN es ride ((opn es).take (k+1))=fun s=>if svP es ride s (opn es)[k] then svN es ride ((opn es).take k) s+1 else svN es ride ((opn es).take k) s:=by
   funext s
   rw [List.take_succ_eq_append_getElem hkl,TV]
  have k22:∀ σ2 τ',Blk b1 (Xq (svN es ride ((opn es).take (k+1)))) σ σ2->Ai 3 [.int .i64] σ2 A n c (opn es) τ'->J22 τ':=by
   intro σ2 τ' h1 h2
   rw [h22]
   intro _
   exact AT (by omega) (A0 _ (by omega) ⟨k+1,_,rfl,by omega,by omega,h1,h2⟩)
  generalize (opn es)[k]=q at *
  refine UY (h.e.sub hs) g0 (by omega) fun r hr=>?_
  have er:enA es q=r:=by rw [En (by omega)];exact hr
  rw [er] at g2
  have hsv:=he.s r (hr▸List.getElem_mem _) g2
  have hsv3:r.2.2.2.1=1∨r.2.2.2.1=2∨r.2.2.2.1=3:=by omega
  refine AA (fun e=>Aeo hsv3 hB ho.sub ?_) (fun e=>k22 _ _ ?_ ho)
  ·have:=Yd (es:=es) (l:=(opn es).take k) (ride:=ride) (s:=r.2.2.2.1)
   have hlt2:((opn es).take k).length<=k:=by rw [List.length_take];omega
   refine AT (by omega) (AeA hsv3 hB ho (g:=svN es ride ((opn es).take (k+1))) (fun i=>?_) k22)
   rw [e1]
   by_cases hi:i=r.2.2.2.1
   ·subst hi;simp [svP,er,e]
   ·have:¬ r.2.2.2.1=i:=fun h=>hi h.symm
    simp [svP,er,hi,this]
  ·rw [e1]
   have:(fun s=>if svP es ride s q=true then svN es ride ((opn es).take k) s+1 else svN es ride ((opn es).take k) s)=svN es ride ((opn es).take k):=by
    funext s
    simp [svP,er,e]
   rw [this]
   exact hB
 ·obtain rfl:k=(opn es).length:=by omega
  rw [List.take_length] at hB
  exact k5 _ ⟨_,hB,ho.sub⟩
end
end Go.Proofs.YthhadkggldcolaaGreat
