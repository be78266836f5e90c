/- Trimmed by wip/trim.py to what this claim rests on. -/
import Derived.Test.YtoelhdjloaknbaaGreatVNa2
namespace Go.Proofs.YtoelhdjloaknbaaGreat
set_option maxRecDepth 100000
open Go.RowKit
theorem Un {α:Type} {P:List α->Prop} (h0:P []) (h1:∀ xs x,P xs->P (xs++[x])) (xs:List α):P xs:=by
 have:∀ ys:List α,P ys.reverse:=fun ys=>by
  induction ys with
  | nil=>exact h0
  | cons y ys ih=>rw [List.reverse_cons];exact h1 _ _ ih
 simpa using this xs.reverse
def scn {α:Type} (f:Ent->Option α) (d:α) (es:List Ent):α:=es.foldl (fun a x=>(f x).getD a) d
theorem PG {α:Type} {f:Ent->Option α} {d:α} {es:List Ent} {x:Ent}:scn f d (es++[x])=(f x).getD (scn f d es):=by
 unfold scn
 rw [List.foldl_append]
 rfl
theorem SE {α:Type} {f:Ent->Option α} {d:α} {es:List Ent} (h:∀ j,(h:j<es.length)->f es[j]=none):scn f d es=d:=by
 revert h
 refine Un (P:=fun es=>(∀ j,(h:j<es.length)->f es[j]=none)->scn f d es=d) (fun _=>rfl) (fun xs x ih h=>?_) es
 have:=h xs.length (by simp)
 rw [List.getElem_append_right (by omega)] at this
 simp at this
 rw [PG,this]
 refine ih fun j hj=>?_
 have:=h j (by simp;omega)
 rwa [List.getElem_append_left hj] at this
theorem UK {α:Type} {f:Ent->Option α} {d a:α} {es:List Ent} {k:Nat} (hk:k<es.length) (h1:f es[k]=some a) (h2:∀ j,(h:j<es.length)->k<j->f es[j]=none):scn f d es=a:=by
 revert h2 h1 hk
 refine Un (P:=fun es=>∀ (hk:k<es.length) (_:f es[k]=some a) (_:∀ j,(h:j<es.length)->k<j->f es[j]=none),scn f d es=a) (fun hk=>absurd hk (Nat.not_lt_zero _)) (fun xs x ih hk h1 h2=>?_) es
 have hl:(xs++[x]).length=xs.length+1:=by simp
 rw [PG]
 by_cases e:k=xs.length
 ·subst e
  rw [List.getElem_append_right (by omega)] at h1
  simp at h1
  rw [h1];rfl
 ·have e1:=h2 xs.length (by omega) (by omega)
  rw [List.getElem_append_right (by omega)] at e1
  simp at e1
  rw [e1]
  have hk':k<xs.length:=by omega
  rw [List.getElem_append_left hk'] at h1
  refine ih hk' h1 fun j hj hkj=>?_
  have:=h2 j (by omega) hkj
  rwa [List.getElem_append_left hj] at this
theorem YX {v:Value} {p:Prop} (h:FZ v=true) (hp:p):one v p:=by
 unfold one
 rw [h]
 exact hp
section
variable {σ:Hp} {w:BkW} {E:SL} {b:Bok} {es:List Ent}
theorem WA {A:Option Addr} {n c:Nat}:Ae Tryz.prog FR #[.slice A n c] σ fun v σ'=>∃ b,v=.func (.func Cb) #[] #[.pointer (some ⟨b,0,none⟩)]/\Blk b (.cells #[.slice A n c] 29 (0,0)) σ σ':=by
 refine ES _ _ _ _ _ ?_
 intro b nb
 exact Al ⟨b,rfl,nb,rfl⟩
theorem T2 {y:Value} {b:Nat} {A:Option Addr} {n c:Nat} {I:Nat->Hp->Prop} {Q:Hp->Prop} (hn:es.length<=4294967296)
  (hI:∀ i τ,I i τ->τ b=some (.cells #[.slice A n c] 29 (0,0),true)/\RdS sEn τ A n es)
  (hy:∀ i (h:i<es.length) τ,I i τ->BO Tryz.prog y #[.int .i64 ((es.length-1-i:Nat):Int),enV (es[es.length-1-i]'(by omega))] τ fun v τ'=>∃ t:Bool,v=.bool t/\(t=true->I (i+1) τ')/\(t=false->Q τ'))
  (h0:I 0 σ):Ae Tryz.prog Cb #[y,.pointer (some ⟨b,0,none⟩)] σ fun _ σ'=>I es.length σ'∨Q σ':=by
 refine Eo _ _ _ _ ?_
 unfold BG
 obtain ⟨g0,r0⟩:=hI _ _ h0
 have hnx:n=es.length:=r0.1
 refine AA (Bm g0 rfl (AP (by omega) ?_))
 refine ⟨fun q i τ=>∃ k:Nat,q=es.length-k/\i=(es.length:Int)-1-k/\k<=es.length/\I k τ,⟨_,0,rfl,by omega,by omega,h0⟩,?_⟩
 rintro q i τ ⟨k,rfl,rfl,hk,hIk⟩ _
 obtain ⟨g1,r1⟩:=hI _ _ hIk
 refine AD (fun hlt=>?_) (fun hge=>?_)
 ·refine AA (Bm g1 rfl ?_)
  have ei:(es.length:Int)-1-k=((es.length-1-k:Nat):Int):=by omega
  rw [ei]
  refine S4 r1 (by omega) (by rw [Int.toNat_natCast];omega) fun r hr=>?_
  simp only [Int.toNat_natCast] at hr
  have:=hy k (by omega) τ hIk
  rw [hr] at this
  refine BO.mono this ?_
  rintro v τ' ⟨t,rfl,ht,hq⟩
  exact ⟨t,rfl,BJ (fun e=>Al (.inr (hq e))) (fun e=>AP (by omega) (AW _ (by omega) ⟨k+1,rfl,by omega,by omega,ht e⟩))⟩
 ·obtain rfl:k=es.length:=by omega
  exact Al (.inl hIk)
abbrev lgO (w:BkW) (E:SL):Obj:=.cells #[w.r.v,w.k.v,w.i.v,E.v] 208 (0,0)
theorem WW:Ae Tryz.prog Me #[lgV w E] σ fun v σ'=>∃ b,v=.func (.func Fa) #[] #[.pointer (some ⟨b,0,none⟩)]/\Blk b (lgO w E) σ σ':=by
 refine Ki _ _ _ _ _ _ _ _ _ _ _ _ _ _ ?_
 intro b nb
 exact Al ⟨b,rfl,nb,rfl⟩
theorem SK {y:Value} {b:Nat} {I:Nat->Hp->Prop} {Q:Hp->Prop} (hy1:FZ y=true) (hn:es.length<=4294967296)
  (hI:∀ i τ,I i τ->τ b=some (lgO w E,true)/\RdS sEn τ E.A E.n es)
  (hy:∀ i (h:i<es.length) τ,I i τ->BO Tryz.prog y #[enV (es[es.length-1-i]'(by omega))] τ fun v τ'=>∃ t:Bool,v=.bool t/\(t=true->I (i+1) τ')/\(t=false->Q τ'))
  (h0:I 0 σ):Ae Tryz.prog Fa #[y,.pointer (some ⟨b,0,none⟩)] σ fun _ σ'=>I es.length σ'∨Q σ':=by
 refine Iw _ _ _ _ ?_
 unfold CO
 obtain ⟨g0,_⟩:=hI _ _ h0
 refine YX hy1 (AA (Bm g0 rfl (AU D8 WA ?_)))
 rintro v σ5 ⟨bb,rfl,hbb⟩
 refine ⟨_,rfl,?_⟩
 intro b7 n7 l Rec hl hcall
 have hB0:Bxs [(bb,.cells #[E.v] 29 (0,0)),(b7,.cells #[y] 257 (0,0)),(l,Rec .ready none)] σ _:=⟨_,hbb,_,⟨n7,rfl⟩,_,⟨hl,rfl⟩,rfl⟩
 refine TN.nf Dw (Ae.mono (T2 (es:=es) (y:=.func (.yield l) #[] #[]) (b:=bb) (A:=E.A) (n:=E.n) (c:=E.c)
  (I:=fun i τ=>∃ τ0,I i τ0/\Bxs [(bb,.cells #[E.v] 29 (0,0)),(b7,.cells #[y] 257 (0,0)),(l,Rec .ready none)] τ0 τ)
  (Q:=fun τ=>∃ τ0,Q τ0/\Bxs [(bb,.cells #[E.v] 29 (0,0)),(b7,.cells #[y] 257 (0,0)),(l,Rec .done (some .ret))] τ0 τ)
  hn (fun i τ hh=>?_) (fun i hi τ hh=>?_) ⟨σ,h0,hB0⟩) ?_)
 ·obtain ⟨τ0,h1,h2⟩:=hh
  exact ⟨h2.at (k:=0) rfl,(hI _ _ h1).2.sub h2.sub⟩
 ·obtain ⟨τ0,h1,h2⟩:=hh
  have glb:=h2.at (k:=2) rfl
  refine hcall _ _ _ glb ⟨_,_,_,_,_,_,rfl,fun _=>⟨glb,?_⟩⟩
  have h3:Bxs [(bb,.cells #[E.v] 29 (0,0)),(b7,.cells #[y] 257 (0,0)),(l,Rec .busy none)] τ0 _:=h2.set (k:=2) rfl (Rec .busy none)
  generalize τ.ins l (Rec .busy none)=τ1 at h3 ⊢
  refine ⟨_,Et (h3.at (k:=1) rfl) rfl,BO.mono (cl.over Bxs.port (hy i hi τ0 h1) h3) ?_⟩
  rintro v τ2 ⟨τ0',⟨t,rfl,ht,hq⟩,h4⟩
  have gl2:=h4.at (k:=2) rfl
  refine ⟨t,rfl,BJ (fun e=>⟨gl2,false,rfl,fun e=>(by cases e),fun _=>⟨τ0',hq e,?_⟩⟩) (fun e=>⟨gl2,true,rfl,fun _=>⟨τ0',ht e,?_⟩,fun e=>by cases e⟩)⟩
  ·exact h4.set (k:=2) rfl (Rec .done (some .ret))
  ·exact h4.set (k:=2) rfl (Rec .ready none)
 ·rintro v τ (⟨τ0,h1,h2⟩ | ⟨τ0,h1,h2⟩)
  ·refine ⟨.ready,none,h2.at (k:=2) rfl,rfl,?_⟩
   show rt _ (fun (_:Value) σ'=>I es.length σ'∨Q σ') (.tuple #[])
   exact Bl (h2.set (k:=2) rfl (Rec .exhausted none)).sub (.inl h1)
  ·refine ⟨.done,some .ret,h2.at (k:=2) rfl,rfl,?_⟩
   show rt _ (fun (_:Value) σ'=>I es.length σ'∨Q σ') (.tuple #[])
   exact Bl (h2.set (k:=2) rfl (Rec .exhausted (some .ret))).sub (.inr h1)
def MT (p:Ent->Bool) (ride:Int) (x:Ent):Option Int:=if p x then some x.1 else if x.2.1=6/\x.2.2.1=ride then some (-1) else none
def lst (p:Ent->Bool) (ride:Int) (es:List Ent):Int:=scn (MT p ride) (-1) es
theorem WC {f:Value} {p:Ent->Bool} {ride:Int} (h:LgR σ w E b es) (hl:es.length<=4294967296) (hf1:FZ f=true) (hf:∀ τ,Hp.Sub σ τ->∀ x∈es,cl Tryz.prog f #[enV x] τ fun v σ'=>v=.bool (p x)/\σ'=τ):
  Ae Tryz.prog Mu #[lgV w E,.int .i64 ride,f] σ fun v σ'=>v=.int .i64 (lst p ride es)/\σ'=σ:=by
 refine JH _ _ _ _ _ _ _ _ _ _ _ _ _ _ _ _ ?_
 unfold DH
 refine YX hf1 (Af fun J3 h3=>?_)
 refine AU Dr WW ?_
 rintro v σ12 ⟨bb,rfl,hbb⟩
 refine ⟨_,rfl,?_⟩
 intro b14 n14 b16 n16 b18 n18 lb Rec nlb hcall
 have hB0:Bxs [(bb,lgO w E),(b14,.cells #[.int .i64 ride] 3),(b16,.cells #[f] 257),(b18,.cells #[.int .i64 0] 3),(lb,Rec .ready none)] σ _:=⟨_,hbb,_,⟨n14,rfl⟩,_,⟨n16,rfl⟩,_,⟨n18,rfl⟩,_,⟨nlb,rfl⟩,rfl⟩
 refine TN.nf CU (Ae.mono (SK (w:=w) (E:=E) (es:=es) (y:=.func (.yield lb) #[] #[]) (b:=bb)
  (I:=fun i τ=>(∀ j (h:j<es.length),j<i->MT p ride (es[es.length-1-j]'(by omega))=none)/\Bxs [(bb,lgO w E),(b14,.cells #[.int .i64 ride] 3),(b16,.cells #[f] 257),(b18,.cells #[.int .i64 0] 3),(lb,Rec .ready none)] σ τ)
  (Q:=fun τ=>Bxs [(bb,lgO w E),(b14,.cells #[.int .i64 ride] 3),(b16,.cells #[f] 257),(b18,.cells #[.int .i64 (lst p ride es)] 3),(lb,Rec .done (some .ret))] σ τ)
  rfl hl (fun i τ hh=>⟨hh.2.at (k:=0) rfl,h.e.sub hh.2.sub⟩) (fun i hi τ hh=>?_) ⟨fun j _ h=>absurd h (Nat.not_lt_zero _),hB0⟩) ?_)
 ·obtain ⟨hno,hB⟩:=hh
  have glb:=hB.at (k:=4) rfl
  refine hcall _ _ _ glb ⟨_,_,_,_,_,rfl,fun _=>⟨glb,?_⟩⟩
  have h3:Bxs [(bb,lgO w E),(b14,.cells #[.int .i64 ride] 3),(b16,.cells #[f] 257),(b18,.cells #[.int .i64 0] 3),(lb,Rec .busy none)] σ _:=hB.set (k:=4) rfl (Rec .busy none)
  generalize τ.ins lb (Rec .busy none)=τ1 at h3 ⊢
  have hx:=hf τ1 h3.sub _ (List.getElem_mem (l:=es) (n:=es.length-1-i) (by omega))
  have hlater:∀ j,(hj:j<es.length)->es.length-1-i<j->MT p ride es[j]=none:=fun j hj h1=>by
   have:=hno (es.length-1-j) (by omega) (by omega)
   have e1:es.length-1-(es.length-1-j)=j:=by omega
   simp only [e1] at this
   exact this
  have hres:∀ a,MT p ride (es[es.length-1-i]'(by omega))=some a->lst p ride es=a:=fun a ha=>UK (by omega) ha hlater
  have hgo:MT p ride (es[es.length-1-i]'(by omega))=none->∀ j (h:j<es.length),j<i+1->MT p ride (es[es.length-1-j]'(by omega))=none:=fun hn j hj h1=>by
   rcases Nat.lt_or_ge j i with a | a
   ·exact hno j hj a
   ·obtain rfl:j=i:=by omega
    exact hn
  clear hno hlater
  generalize es[es.length-1-i]'(by omega)=x at *
  refine ⟨_,Et (h3.at (k:=2) rfl) rfl,BO.mono hx ?_⟩
  rintro _ τ9 ⟨rfl,rfl⟩
  have hout:∀ a,MT p ride x=some a->st τ9 b18 0 (.int .i64 a) fun σ38=>rgx lb Rec (fun v τ'=>∃ t,v=.bool t/\(t=true->(∀ j (h:j<es.length),j<i+1->MT p ride (es[es.length-1-j]'(by omega))=none)/\Bxs [(bb,lgO w E),(b14,.cells #[.int .i64 ride] 3),(b16,.cells #[f] 257),(b18,.cells #[.int .i64 0] 3),(lb,Rec .ready none)] σ τ')/\(t=false->Bxs [(bb,lgO w E),(b14,.cells #[.int .i64 ride] 3),(b16,.cells #[f] 257),(b18,.cells #[.int .i64 (lst p ride es)] 3),(lb,Rec .done (some .ret))] σ τ')) σ38 .ret:=by
   intro a ha
   refine h3.stv (k:=3) rfl (by decide) fun τ2 h4=>?_
   have h4:Bxs [(bb,lgO w E),(b14,.cells #[.int .i64 ride] 3),(b16,.cells #[f] 257),(b18,.cells #[.int .i64 a] 3),(lb,Rec .busy none)] σ τ2:=h4
   refine ⟨h4.at (k:=4) rfl,false,rfl,fun e=>(by cases e),fun _=>?_⟩
   rw [hres a ha]
   exact h4.set (k:=4) rfl (Rec .done (some .ret))
  refine ⟨_,rfl,CW (fun e=>hout _ ?_) (fun e=>Af fun J41 h41=>?_)⟩
  ·unfold MT;rw [if_pos e]
  ·have k41:∀ t,t=decide (x.2.1=6/\x.2.2.1=ride)->J41 t τ9:=by
    rintro t rfl
    rw [h41]
    intro _
    refine AD (fun a=>hout _ ?_) (fun a=>⟨h3.at (k:=4) rfl,true,rfl,fun _=>⟨hgo ?_,h3.set (k:=4) rfl (Rec .ready none)⟩,fun e=>by cases e⟩)
    ·unfold MT;rw [e,if_neg (by decide),if_pos a]
    ·unfold MT;rw [e,if_neg (by decide),if_neg a]
   refine AD (fun a=>AY (h3.at (k:=1) rfl) rfl (k41 _ ?_)) (fun a=>k41 _ ?_)
   ·simp [a]
   ·simp [a]
 ·rintro v τ (⟨hno,hB⟩ | hB)
  ·refine ⟨.ready,none,hB.at (k:=4) rfl,rfl,?_⟩
   have hB:=hB.set (k:=4) rfl (Rec .exhausted none)
   generalize τ.ins lb (Rec .exhausted none)=τ1 at hB ⊢
   show J3 _ _
   rw [h3]
   intro _
   refine AA (hB.stv (k:=3) rfl (by decide) fun τ2 h4=>AA (AY (h4.at (k:=3) rfl) rfl (Bl h4.sub ⟨?_,rfl⟩)))
   have:lst p ride es=-1:=SE fun j hj=>by
    have:=hno (es.length-1-j) (by omega) (by omega)
    have e1:es.length-1-(es.length-1-j)=j:=by omega
    simp only [e1] at this
    exact this
   rw [this]
  ·refine ⟨.done,some .ret,hB.at (k:=4) rfl,rfl,?_⟩
   have hB:=hB.set (k:=4) rfl (Rec .exhausted (some .ret))
   generalize τ.ins lb (Rec .exhausted (some .ret))=τ1 at hB ⊢
   exact AY (hB.at (k:=3) rfl) rfl (Bl hB.sub ⟨rfl,rfl⟩)
end
end Go.Proofs.YtoelhdjloaknbaaGreat
namespace Go.Proofs.YtoelhdjloaknbaaGreat
set_option maxRecDepth 100000
open Go.RowKit
structure PP (es:List Ent):Prop where
 n:es.length<=100
 d:∀ x∈es,0<=x.1/\x.1<=10000
 s:∀ x∈es,x.2.1=2->1<=x.2.2.2.1/\x.2.2.2.1<=3
 o:es.Pairwise fun x y=>x.1<=y.1
theorem Qb {es:List Ent} {j:Nat} (hj:j<es.length):PO (es.take (j+1))=es[j].1:=by
 unfold PO
 have hl:(es.take (j+1)).length=j+1:=by simp;omega
 rw [hl,if_pos (by omega)]
 have e:((j+1:Nat):Int)-1=(j:Nat):=by omega
 rw [e,Mc (by rw [hl,Int.toNat_natCast];omega)]
 simp
theorem Bok.chk_es {b:Bok} {es:List Ent} (h:(b.chk es).2=0):PP es:=by
 obtain ⟨_,hn,hr⟩:=Bok.chk_ok h
 have hin:∀ j,(hj:j<es.length)->PO (es.take j)<=es[j].1/\es[j].1<=10000/\(es[j].2.1=2->1<=es[j].2.2.2.1/\es[j].2.2.2.1<=3):=by
  intro j hj
  have h1:=hr j hj
  rw [Mc (by simpa using hj)] at h1
  simp only [Int.toNat_natCast] at h1
  unfold Bok.rgt at h1
  rw [Bool.and_eq_true] at h1
  refine ⟨(OR h1.1).1,(OR h1.1).2,fun e=>?_⟩
  have h2:=h1.2
  rw [if_neg (by rw [e];decide),if_pos e] at h2
  simp only [Bool.and_eq_true] at h2
  exact OR h2.1.2
 have h0:∀ j,(hj:j<es.length)->0<=es[j].1:=by
  intro j
  induction j with
  | zero=>intro hj;have:=(hin 0 hj).1;simpa [PO] using this
  | succ j ih=>
   intro hj
   have h1:=(hin (j+1) hj).1
   rw [Qb (by omega)] at h1
   have:=ih (by omega)
   omega
 refine ⟨hn,fun x hx=>?_,fun x hx=>?_,?_⟩
 ·obtain ⟨j,hj,rfl⟩:=List.mem_iff_getElem.1 hx
  exact ⟨h0 j hj,(hin j hj).2.1⟩
 ·obtain ⟨j,hj,rfl⟩:=List.mem_iff_getElem.1 hx
  exact (hin j hj).2.2
 ·rw [List.pairwise_iff_getElem]
  intro i j hi hj hij
  have:∀ d,(hd:i+d<es.length)->es[i].1<=es[i+d].1:=by
   intro d
   induction d with
   | zero=>intro _;exact Int.le_refl _
   | succ d ih=>
    intro hd
    have h1:=(hin (i+d+1) hd).1
    rw [Qb (by omega)] at h1
    have:=ih (by omega)
    have e:i+(d+1)=i+d+1:=by omega
    simp only [e]
    omega
  have:=this (j-i) (by omega)
  have e:i+(j-i)=j:=by omega
  simp only [e] at this
  exact this
theorem PP.take {es:List Ent} (h:PP es) (k:Nat):PP (es.take k):=
 ⟨by rw [List.length_take];have:=h.n;omega,fun x hx=>h.d x (List.mem_of_mem_take hx),fun x hx=>h.s x (List.mem_of_mem_take hx),h.o.sublist (List.take_sublist _ _)⟩
theorem Zk {α:Type} {f:Ent->Option α} {d:α} (es:List Ent):scn f d es=d∨∃ x∈es,f x=some (scn f d es):=by
 refine Un (P:=fun es=>scn f d es=d∨∃ x∈es,f x=some (scn f d es)) (.inl rfl) (fun xs x ih=>?_) es
 rw [PG]
 cases e:f x with
 | some a=>exact .inr ⟨x,by simp,by simp [e]⟩
 | none=>
  rcases ih with h | ⟨y,hy,h⟩
  ·exact .inl (by simpa using h)
  ·exact .inr ⟨y,by simp [hy],by simpa using h⟩
theorem Z0 {es:List Ent} (h:PP es) {p:Ent->Bool} {ride:Int}:-1<=lst p ride es/\lst p ride es<=10000:=by
 unfold lst
 rcases Zk (f:=MT p ride) (d:=-1) es with e | ⟨x,hx,e⟩
 ·omega
 ·have:=h.d x hx
  generalize scn (MT p ride) (-1) es=z at *
  unfold MT at e
  split at e
  ·cases e;omega
  ·split at e
   ·cases e;omega
   ·cases e
def ckP (i:Int) (x:Ent):Bool:=decide (x.2.1=1)&&decide (x.2.2.1=i)
def tsP (ride:Int) (x:Ent):Bool:=decide (x.2.1=4)&&decide (x.2.2.1=ride)
def Bok.unt (b:Bok) (es:List Ent) (i:Int):Int:=if lst (ckP i) (b.ru i).1 es<0 then -1 else lst (ckP i) (b.ru i).1 es+(b.ru i).2.1-1
def PS (es:List Ent) (k:Nat):List Int:=((List.range k).filter fun i:Nat=>decide ((enA es (i:Nat)).2.1=2) && !mnd es (i:Nat)).map fun i:Nat=>(i:Int)
def opn (es:List Ent):List Int:=PS es es.length
def Bok.ckd (b:Bok) (es:List Ent) (ride:Int):Nat->Int
 | 0=>10000
 | k+1=>if (b.ru (k:Nat)).1=ride then (if b.unt es (k:Nat)<b.ckd es ride k then b.unt es (k:Nat) else b.ckd es ride k) else b.ckd es ride k
def svP (es:List Ent) (ride s i:Int):Bool:=decide ((enA es i).2.2.1=ride)&&decide ((enA es i).2.2.2.1=s)
def svN (es:List Ent) (ride:Int) (l:List Int) (s:Int):Int:=((l.filter (svP es ride s)).length:Nat)
def PW (es:List Ent) (ride:Int):Bool:=decide (svN es ride (opn es) 3=0)&&decide (svN es ride (opn es) 2<=1)
def SR (ride:Int) (x:Ent):Option Int:=if x.2.1=5/\x.2.2.1=ride then some x.2.2.2.1 else none
def Bok.ins (b:Bok) (es:List Ent) (ride:Int):Int:=scn (SR ride) (gt b.I ride) es
theorem Bok.ruOK {b:Bok} (hb:b.ok=true) {i:Int} (h0:0<=i) (h1:i<b.R.length):1<=(b.ru i).2.1/\(b.ru i).2.1<=10000:=by
 have:=(Bok.ok_spec hb).2.2.2.1 (b.ru i) (by rw [Bok.ru_eq (by omega)];exact List.getElem_mem _)
 unfold Bok.rulOK at this
 simp only [Bool.and_eq_true] at this
 exact OR this.1.2
theorem Vq {es:List Ent} {k:Nat}:PS es (k+1)=if (enA es (k:Nat)).2.1=2/\mnd es (k:Nat)=false then PS es k++[(k:Int)] else PS es k:=by
 unfold PS
 rw [List.range_succ,List.filter_append,List.map_append]
 by_cases h:(enA es (k:Nat)).2.1=2
 ·cases e:mnd es (k:Nat)<;>simp [h,e]
 ·simp [h]
theorem Su (es:List Ent) (k:Nat):(PS es k).length<=k:=by
 unfold PS
 rw [List.length_map]
 exact Nat.le_trans (List.length_filter_le _ _) (by simp)
theorem Yu {es:List Ent} {i:Int} (h:i∈opn es):0<=i/\i<es.length/\(enA es i).2.1=2:=by
 unfold opn PS at h
 rw [List.mem_map] at h
 obtain ⟨j,hj,rfl⟩:=h
 rw [List.mem_filter,List.mem_range] at hj
 simp only [Bool.and_eq_true,decide_eq_true_eq] at hj
 exact ⟨by omega,by omega,hj.2.1⟩
def Ta (f:Int->Int):Obj:=.cells #[.int .i64 (f 0),.int .i64 (f 1),.int .i64 (f 2),.int .i64 (f 3)] 299 (0,0)
section
variable {σ:Hp} {w:BkW} {E:SL} {b:Bok} {es:List Ent}
theorem Yq (h:LgR σ w E b es) (hb:b.ok=true) (he:PP es) {i:Int} (h0:0<=i) (h1:i<b.R.length):Ae Tryz.prog Ls #[lgV w E,.int .i64 i] σ fun v σ'=>v=.int .i64 (b.unt es i)/\σ'=σ:=by
 refine Jf _ _ _ _ _ _ _ _ _ _ _ _ _ _ _ ?_
 unfold Dd
 have hn:=he.n
 refine Zd h.b.r h0 (by omega) ?_
 intro b4 n4
 have hs:Hp.Sub σ (σ.ins b4 (.cells #[.int .i64 i] 3)):=Hp.Sub.ins _ n4
 refine clI Dt (WC (p:=ckP i) (h.sub hs) (by omega) rfl fun τ hτ x _=>?_) ?_
 ·refine BO.func FS (HM _ _ _ _ _ _ _ _ ?_)
  unfold Cw
  refine AD (fun e=>AA (AY (hτ _ _ (Hp.ins_same ..)) rfl (Al ⟨?_,rfl⟩))) (fun e=>Al ⟨?_,rfl⟩)
  ·simp [ckP,e]
  ·simp [ckP,e]
 ·have hr:=Bok.ruOK hb h0 h1
  have hd:=Z0 he (p:=ckP i) (ride:=(b.ru i).1)
  refine AD (fun e=>Bl hs ⟨?_,rfl⟩) (fun e=>AY (Hp.ins_same ..) rfl (ZG (h.b.sub hs).r h0 (by omega) (AP (by omega) (AP (by omega) (Bl hs ⟨?_,rfl⟩)))))
  ·unfold Bok.unt;rw [if_pos e]
  ·unfold Bok.unt;rw [if_neg e]
theorem VS (h:LgR σ w E b es) (hb:b.ok=true) (he:PP es) {ride:Int}:Ae Tryz.prog J1 #[lgV w E,.int .i64 ride] σ fun v σ'=>v=.int .i64 (b.ckd es ride b.R.length)/\σ'=σ:=by
 refine Hs _ _ _ _ _ _ _ _ _ _ _ _ _ _ _ ?_
 unfold Cm
 have hrn:=h.b.rn
 have h20:=(Bok.ok_spec hb).1
 refine Af fun J3 h3=>?_
 refine ⟨fun m d i τ=>∃ k:Nat,m=b.R.length-k/\i=k/\k<=b.R.length/\τ=σ/\d=b.ckd es ride k,⟨_,0,rfl,rfl,by omega,rfl,rfl⟩,?_⟩
 rintro m d i τ ⟨k,rfl,rfl,hk,rfl,rfl⟩ _
 refine AD (fun hlt=>?_) (fun hlt=>?_)
 ·have hkl:k<b.R.length:=by omega
  refine Af fun J13 h13=>Y2 h.b.r (by omega) (by omega) fun r hr=>?_
  have k13:J13 (b.ckd es ride (k+1)) τ:=by
   rw [h13]
   intro _
   exact AP (by omega) (AW _ (by omega) ⟨k+1,rfl,by omega,by omega,rfl,rfl⟩)
  have er:b.ru (k:Nat)=r:=by rw [Bok.ru_eq (by simpa using hkl)];exact hr
  have es':b.ckd es ride (k+1)=if (b.ru (k:Nat)).1=ride then (if b.unt es (k:Nat)<b.ckd es ride k then b.unt es (k:Nat) else b.ckd es ride k) else b.ckd es ride k:=rfl
  rw [es',er] at k13
  refine AD (fun e=>clI GJ (Yq h hb he (by omega) (by omega)) ?_) (fun e=>?_)
  ·rw [if_pos e] at k13;exact k13
  ·rw [if_neg e] at k13;exact k13
 ·obtain rfl:k=b.R.length:=by omega
  rw [h3]
  intro _
  exact Al ⟨rfl,rfl⟩
theorem Aaa (h:LgR σ w E b es) (he:PP es):Ae Tryz.prog Mr #[lgV w E] σ (YL 3 [.int .i64] σ (opn es)):=by
 refine Kb _ _ _ _ _ _ _ _ _ _ _ _ _ _ ?_
 unfold DW
 have hen:E.n=es.length:=h.e.1
 have hn:=he.n
 refine Af fun J3 h3=>?_
 refine ⟨fun m A n c i τ=>∃ k:Nat,m=es.length-k/\i=k/\k<=es.length/\Ak 3 [.int .i64] σ A n c (PS es k) τ,⟨_,0,rfl,rfl,by omega,Ak.nil ..⟩,?_⟩
 rintro m A n c i τ ⟨k,rfl,rfl,hk,ho⟩ _
 have hs:=ho.sub
 refine AD (fun hlt=>?_) (fun hlt=>?_)
 ·have hkl:k<es.length:=by omega
  refine Af fun J13 h13=>S4 (h.e.sub hs) (by omega) (by omega) fun r hr=>?_
  have k13:∀ A n c τ',Ak 3 [.int .i64] σ A n c (PS es (k+1)) τ'->J13 A n c τ':=by
   intro A n c τ' ho'
   rw [h13]
   intro _
   exact AP (by omega) (AW _ (by omega) ⟨k+1,rfl,by omega,by omega,ho'⟩)
  have er:enA es (k:Nat)=r:=by rw [Mc (by simpa using hkl)];exact hr
  refine Af fun J27 h27=>?_
  have k27:∀ t,t=(decide (r.2.1=2) && !mnd es (k:Nat))->J27 t τ:=by
   rintro t rfl
   rw [h27]
   intro _
   have e1:=Vq (es:=es) (k:=k)
   rw [er] at e1
   refine CW (fun e=>CE ho (Bg (by show (PS es k).length+1<=_;have:=Su es k;omega) ?_)) (fun e=>k13 _ _ _ _ ?_)
   ·intro A' n' c' τ' ho'
    refine k13 _ _ _ _ ?_
    rw [e1,if_pos (by simpa using e)]
    exact ho'
   ·rw [e1,if_neg (by simpa using e)]
    exact ho
  refine AD (fun e=>clB CP (Sw (h.sub hs) (by omega)) (k27 _ ?_)) (fun e=>k27 _ ?_)
  ·simp [e]
  ·simp [e]
 ·obtain rfl:k=es.length:=by omega
  rw [h3]
  intro _
  exact Al ⟨_,_,_,rfl,ho⟩
theorem XM {l:List Int} {ride x s:Int}:svN es ride (l++[x]) s=if svP es ride s x then svN es ride l s+1 else svN es ride l s:=by
 unfold svN
 rw [List.filter_append]
 cases e:svP es ride s x<;>simp [e]
theorem Zc {l:List Int} {ride s:Int}:0<=svN es ride l s/\svN es ride l s<=l.length:=by
 unfold svN
 have:=List.length_filter_le (svP es ride s) l
 omega
theorem Z9 {b1:Nat} {f:Int->Int} {σ1 τ:Hp} {K:Int->Prop} {s:Int} (h:s=1∨s=2∨s=3) (hB:Blk b1 (Ta f) σ σ1) (hs:Hp.Sub σ1 τ) (hk:K (f s)):ix (some ⟨b1,0,none⟩) 4 s 1 fun b a=>ldI τ .i64 b a K:=by
 have hg:=hs _ _ hB.get
 rcases h with rfl | rfl | rfl
 ·exact ⟨by decide,by decide,AY (k:=1) hg rfl hk⟩
 ·exact ⟨by decide,by decide,AY (k:=2) hg rfl hk⟩
 ·exact ⟨by decide,by decide,AY (k:=3) hg rfl hk⟩
theorem ZQ {b1:Nat} {f g:Int->Int} {σ1 τ:Hp} {K:Hp->Prop} {s v:Int} {A:Option Addr} {n c:Nat} {xs:List Int} (h:s=1∨s=2∨s=3) (hB:Blk b1 (Ta f) σ σ1) (ho:Ak 3 [.int .i64] σ1 A n c xs τ) (hg:∀ i,g i=if i=s then v else f i)
  (hk:∀ σ2 τ',Blk b1 (Ta g) σ σ2->Ak 3 [.int .i64] σ2 A n c xs τ'->K τ'):ix (some ⟨b1,0,none⟩) 4 s 1 fun b a=>st τ b a (.int .i64 v) K:=by
 have hb:=ho.sub _ _ hB.get
 have hcon:∀ i:Nat,i<4->(i:Int)=s->(#[Value.int .i64 (f 0),.int .i64 (f 1),.int .i64 (f 2),.int .i64 (f 3)].setIfInBounds i (.int .i64 v))=#[.int .i64 (g 0),.int .i64 (g 1),.int .i64 (g 2),.int .i64 (g 3)]->st τ b1 i (.int .i64 v) K:=by
  intro i hi he e
  refine ⟨KN hb (by simpa using hi),?_⟩
  have e2:=EO (k:=i) (v:=.int .i64 v) hb
  rw [e2,e]
  exact hk _ _ hB.again (Av.own.again ho hB.get (Ta g))
 rcases h with rfl | rfl | rfl
 ·refine ⟨by decide,by decide,hcon 1 (by omega) rfl ?_⟩
  rw [hg,hg,hg,hg];rfl
 ·refine ⟨by decide,by decide,hcon 2 (by omega) rfl ?_⟩
  rw [hg,hg,hg,hg];rfl
 ·refine ⟨by decide,by decide,hcon 3 (by omega) rfl ?_⟩
  rw [hg,hg,hg,hg];rfl
theorem Yo (h:LgR σ w E b es) (he:PP es) {ride:Int}:Ae Tryz.prog LB #[lgV w E,.int .i64 ride] σ fun v σ'=>v=.bool (PW es ride)/\σ'=σ:=by
 refine IP _ _ _ _ _ _ _ _ _ _ _ _ _ _ _ ?_
 unfold Dm
 intro b1 n1
 have hB0:Blk b1 (Ta (svN es ride [])) σ _:=⟨n1,rfl⟩
 have hn:=he.n
 refine Af fun J5 h5=>?_
 have k5:∀ τ,Lse (Blk b1 (Ta (svN es ride (opn es)))) σ τ->J5 τ:=by
  intro τ hB
  rw [h5]
  intro _
  obtain ⟨τ1,hB1,hs1⟩:=hB
  have hg:=hs1 _ _ hB1.get
  have hs:=hB1.nin.trans hs1
  refine ⟨by decide,by decide,AY (k:=3) hg rfl (AD (fun e=>⟨by decide,by decide,AY (k:=2) hg rfl (Bl hs ⟨?_,rfl⟩)⟩) (fun e=>Bl hs ⟨?_,rfl⟩))⟩
  ·simp [PW,e]
  ·simp [PW,e]
 refine AU Ha (Aaa (h.sub hB0.nin) he) ?_
 rintro v σ13 ⟨A,n,c,rfl,ho⟩
 have hol:(opn es).length<=es.length:=Su es es.length
 have hon:n=(opn es).length:=ho.len
 refine ⟨_,_,_,rfl,?_⟩
 clear h5
 refine ⟨fun m i τ=>∃ (k:Nat) (σ1:Hp),m=(opn es).length-k/\i=k/\k<=(opn es).length/\Blk b1 (Ta (svN es ride ((opn es).take k))) σ σ1/\Ak 3 [.int .i64] σ1 A n c (opn es) τ,⟨_,0,_,rfl,rfl,by omega,hB0,ho⟩,?_⟩
 clear hB0 ho σ13
 rintro m i τ ⟨k,σ1,rfl,rfl,hk,hB,ho⟩ _
 have hs:=hB.nin.trans ho.sub
 refine AD (fun hlt=>?_) (fun hlt=>?_)
 ·have hkl:k<(opn es).length:=by omega
  obtain ⟨g0,g1,g2⟩:=Yu (List.getElem_mem hkl)
  refine Af fun J22 h22=>Io ho.rd (by omega) (by omega) ?_
  rw [Fp hkl]
  have e1:svN es ride ((opn es).take (k+1))=fun s=>if svP es ride s (opn es)[k] then svN es ride ((opn es).take k) s+1 else svN es ride ((opn es).take k) s:=by
   funext s
   rw [List.take_succ_eq_append_getElem hkl,XM]
  have k22:∀ σ2 τ',Blk b1 (Ta (svN es ride ((opn es).take (k+1)))) σ σ2->Ak 3 [.int .i64] σ2 A n c (opn es) τ'->J22 τ':=by
   intro σ2 τ' h1 h2
   rw [h22]
   intro _
   exact AP (by omega) (AW _ (by omega) ⟨k+1,_,rfl,by omega,by omega,h1,h2⟩)
  generalize (opn es)[k]=q at *
  refine S4 (h.e.sub hs) g0 (by omega) fun r hr=>?_
  have er:enA es q=r:=by rw [Mc (by omega)];exact hr
  rw [er] at g2
  have hsv:=he.s r (hr▸List.getElem_mem _) g2
  have hsv3:r.2.2.2.1=1∨r.2.2.2.1=2∨r.2.2.2.1=3:=by omega
  refine AD (fun e=>Z9 hsv3 hB ho.sub ?_) (fun e=>k22 _ _ ?_ ho)
  ·have:=Zc (es:=es) (l:=(opn es).take k) (ride:=ride) (s:=r.2.2.2.1)
   have hlt2:((opn es).take k).length<=k:=by rw [List.length_take];omega
   refine AP (by omega) (ZQ hsv3 hB ho (g:=svN es ride ((opn es).take (k+1))) (fun i=>?_) k22)
   rw [e1]
   by_cases hi:i=r.2.2.2.1
   ·subst hi;simp [svP,er,e]
   ·have:¬ r.2.2.2.1=i:=fun h=>hi h.symm
    simp [svP,er,hi,this]
  ·rw [e1]
   have:(fun s=>if svP es ride s q=true then svN es ride ((opn es).take k) s+1 else svN es ride ((opn es).take k) s)=svN es ride ((opn es).take k):=by
    funext s
    simp [svP,er,e]
   rw [this]
   exact hB
 ·obtain rfl:k=(opn es).length:=by omega
  rw [List.take_length] at hB
  exact k5 _ ⟨_,hB,ho.sub⟩
end
end Go.Proofs.YtoelhdjloaknbaaGreat
namespace Go.Proofs.YtoelhdjloaknbaaGreat
set_option maxRecDepth 100000
open Go.RowKit
def Bok.why (b:Bok) (es:List Ent) (ride day:Int):List Int:=
 (((if b.ckd es ride b.R.length<day then [1] else [])++(if PW es ride then [] else [2]))++(if lst (tsP ride) ride es=day then [] else [3]))++(if b.ins es ride<day then [4] else [])
def Bok.rel (b:Bok) (es:List Ent) (day:Int):List Int:=((List.range b.I.length).filter fun i:Nat=>decide ((b.why es (i:Nat) day).length=0)).map fun i:Nat=>(i:Int)
def Qa (b:Bok) (es:List Ent) (day:Int) (k:Nat):List Int:=((List.range k).filter fun i:Nat=>decide ((b.why es (i:Nat) day).length=0)).map fun i:Nat=>(i:Int)
theorem VG {b:Bok} {es:List Ent} {day:Int} {k:Nat}:Qa b es day (k+1)=if (b.why es (k:Nat) day).length=0 then Qa b es day k++[(k:Int)] else Qa b es day k:=by
 unfold Qa
 rw [List.range_succ,List.filter_append,List.map_append]
 by_cases h:(b.why es (k:Nat) day).length=0
 ·rw [if_pos h,List.filter_cons_of_pos (by simpa using h)];rfl
 ·rw [if_neg h,List.filter_cons_of_neg (by simpa using h)];simp
theorem SS (b:Bok) (es:List Ent) (day:Int) (k:Nat):(Qa b es day k).length<=k:=by
 unfold Qa
 rw [List.length_map]
 exact Nat.le_trans (List.length_filter_le _ _) (by simp)
def Bok.relD (b:Bok) (es:List Ent) (day:Int):List Int:=if b.dayE es day=0 then b.rel (Bok.upE es day) day else []
def MW (b1:Nat) (xs:List Int):Rel:=fun σ τ=>∃ s:SL,((Blk b1 (.cells #[s.v] 26 (0,0))).seq fun σ' τ'=>Ak 3 [.int .i64] σ' s.A s.n s.c xs τ') σ τ
theorem MW.port {b1:Nat} {xs:List Int}:Av (MW b1 xs):=Av.ex fun _=>Av.blk.seq Av.own
section
variable {σ:Hp} {w:BkW} {E:SL} {b:Bok} {es:List Ent}
theorem VM {ride:Int} (h:LgR σ w E b es) (hl:es.length<=4294967296) (hr:0<=ride/\ride<b.I.length):
  Ae Tryz.prog JS #[lgV w E,.int .i64 ride] σ fun v σ'=>v=.int .i64 (b.ins es ride)/\σ'=σ:=by
 refine Hj _ _ _ _ _ _ _ _ _ _ _ _ _ _ _ ?_
 unfold Cz
 refine Af fun J3 h3=>?_
 refine AU Dr WW ?_
 rintro v σ12 ⟨bb,rfl,hbb⟩
 refine ⟨_,rfl,?_⟩
 intro b14 n14 b18 n18 lb Rec nlb hcall
 have hB0:Bxs [(bb,lgO w E),(b14,.cells #[.int .i64 ride] 3),(b18,.cells #[.int .i64 0] 3),(lb,Rec .ready none)] σ _:=⟨_,hbb,_,⟨n14,rfl⟩,_,⟨n18,rfl⟩,_,⟨nlb,rfl⟩,rfl⟩
 refine TN.nf CU (Ae.mono (SK (w:=w) (E:=E) (es:=es) (y:=.func (.yield lb) #[] #[]) (b:=bb)
  (I:=fun i τ=>(∀ j (h:j<es.length),j<i->SR ride (es[es.length-1-j]'(by omega))=none)/\Bxs [(bb,lgO w E),(b14,.cells #[.int .i64 ride] 3),(b18,.cells #[.int .i64 0] 3),(lb,Rec .ready none)] σ τ)
  (Q:=fun τ=>Bxs [(bb,lgO w E),(b14,.cells #[.int .i64 ride] 3),(b18,.cells #[.int .i64 (b.ins es ride)] 3),(lb,Rec .done (some .ret))] σ τ)
  rfl hl (fun i τ hh=>⟨hh.2.at (k:=0) rfl,h.e.sub hh.2.sub⟩) (fun i hi τ hh=>?_) ⟨fun j _ h=>absurd h (Nat.not_lt_zero _),hB0⟩) ?_)
 ·obtain ⟨hno,hB⟩:=hh
  have glb:=hB.at (k:=3) rfl
  refine hcall _ _ _ glb ⟨_,_,_,_,_,rfl,fun _=>⟨glb,?_⟩⟩
  have h3:Bxs [(bb,lgO w E),(b14,.cells #[.int .i64 ride] 3),(b18,.cells #[.int .i64 0] 3),(lb,Rec .busy none)] σ _:=hB.set (k:=3) rfl (Rec .busy none)
  generalize τ.ins lb (Rec .busy none)=τ9 at h3 ⊢
  have hlater:∀ j,(hj:j<es.length)->es.length-1-i<j->SR ride es[j]=none:=fun j hj h1=>by
   have:=hno (es.length-1-j) (by omega) (by omega)
   have e1:es.length-1-(es.length-1-j)=j:=by omega
   simp only [e1] at this
   exact this
  have hres:∀ a,SR ride (es[es.length-1-i]'(by omega))=some a->b.ins es ride=a:=fun a ha=>UK (by omega) ha hlater
  have hgo:SR ride (es[es.length-1-i]'(by omega))=none->∀ j (h:j<es.length),j<i+1->SR ride (es[es.length-1-j]'(by omega))=none:=fun hn j hj h1=>by
   rcases Nat.lt_or_ge j i with a | a
   ·exact hno j hj a
   ·obtain rfl:j=i:=by omega
    exact hn
  clear hno hlater
  generalize es[es.length-1-i]'(by omega)=x at *
  refine Af fun J41 h41=>?_
  have k41:∀ t,t=decide (x.2.1=5/\x.2.2.1=ride)->J41 t τ9:=by
   rintro t rfl
   rw [h41]
   intro _
   refine AD (fun a=>h3.stv (k:=2) rfl (by decide) fun τ2 h4=>?_) (fun a=>⟨h3.at (k:=3) rfl,true,rfl,fun _=>⟨hgo ?_,h3.set (k:=3) rfl (Rec .ready none)⟩,fun e=>by cases e⟩)
   ·have h4:Bxs [(bb,lgO w E),(b14,.cells #[.int .i64 ride] 3),(b18,.cells #[.int .i64 x.2.2.2.1] 3),(lb,Rec .busy none)] σ τ2:=h4
    refine ⟨h4.at (k:=3) rfl,false,rfl,fun e=>(by cases e),fun _=>?_⟩
    rw [hres x.2.2.2.1 (by unfold SR;rw [if_pos a])]
    exact h4.set (k:=3) rfl (Rec .done (some .ret))
   ·unfold SR;rw [if_neg a]
  refine AD (fun a=>AY (h3.at (k:=1) rfl) rfl (k41 _ ?_)) (fun a=>k41 _ ?_)
  ·simp [a]
  ·simp [a]
 ·rintro v τ (⟨hno,hB⟩ | hB)
  ·refine ⟨.ready,none,hB.at (k:=3) rfl,rfl,?_⟩
   have hB:=hB.set (k:=3) rfl (Rec .exhausted none)
   generalize τ.ins lb (Rec .exhausted none)=τ1 at hB ⊢
   show J3 _ _ _
   rw [h3]
   intro _
   refine AA (AY (hB.at (k:=1) rfl) rfl (Io (h.b.sub hB.sub).i hr.1 hr.2 (AA (hB.stv (k:=2) rfl (by decide) fun τ2 h4=>AA (AY (h4.at (k:=2) rfl) rfl (Bl h4.sub ⟨?_,rfl⟩))))))
   have:b.ins es ride=gt b.I ride:=SE fun j hj=>by
    have:=hno (es.length-1-j) (by omega) (by omega)
    have e1:es.length-1-(es.length-1-j)=j:=by omega
    simp only [e1] at this
    exact this
   rw [this]
  ·refine ⟨.done,some .ret,hB.at (k:=3) rfl,rfl,?_⟩
   have hB:=hB.set (k:=3) rfl (Rec .exhausted (some .ret))
   generalize τ.ins lb (Rec .exhausted (some .ret))=τ1 at hB ⊢
   exact AY (hB.at (k:=2) rfl) rfl (Bl hB.sub ⟨rfl,rfl⟩)
theorem Aaj {b1:Nat} {xs:List Int} {r:Int} {t:Bool} {τ:Hp} (hl:xs.length<=10) (h:MW b1 xs σ τ):Ae Tryz.prog FK #[.int .i64 r,.bool t,.pointer (some ⟨b1,0,none⟩)] τ fun _ τ'=>MW b1 (xs++if t then [r] else []) σ τ':=by
 refine Jg _ _ _ _ _ ?_
 unfold De
 obtain ⟨s,σx,hB,ho⟩:=h
 refine CW (fun e=>AA (Bm (ho.sub _ _ hB.get) rfl (CE ho (Bg (by show xs.length+1<=_;omega) ?_)))) (fun e=>Al ?_)
 ·subst e
  intro A n c σ7 ho7
  refine AA ⟨KN (ho7.sub _ _ hB.get) (Nat.zero_lt_one),?_⟩
  rw [EO (ho7.sub _ _ hB.get)]
  exact Al ⟨⟨A,n,c⟩,_,hB.again,Av.own.again ho7 hB.get _⟩
 ·subst e
  rw [show (xs++if false=true then [r] else [])=xs by simp]
  exact ⟨s,σx,hB,ho⟩
theorem UN {b1:Nat} {xs:List Int} {r:Int} {t:Bool} {τ:Hp} {K:Hp->Prop} (hl:xs.length<=10) (h:MW b1 xs σ τ) (hk:∀ τ',MW b1 (xs++if t then [r] else []) σ τ'->K τ'):
  cl Tryz.prog (.func (.func FK) #[] #[.pointer (some ⟨b1,0,none⟩)]) #[.int .i64 r,.bool t] τ fun _ τ'=>K τ':=
 BO.mono (BO.func GK (Aaj hl h)) fun _ _ h=>hk _ h
theorem Aam {ride day:Int} (h:LgR σ w E b es) (hb:b.ok=true) (he:PP es) (hr:0<=ride/\ride<b.I.length):
  Ae Tryz.prog MH #[lgV w E,.int .i64 ride,.int .i64 day] σ (YL 3 [.int .i64] σ (b.why es ride day)):=by
 refine KU _ _ _ _ _ _ _ _ _ _ _ _ _ _ _ _ ?_
 unfold Eb
 have hn:=he.n
 intro b1 n1
 have hP:MW b1 [] σ (σ.ins b1 (.cells #[.slice none 0 0] 26)):=⟨⟨none,0,0⟩,_,⟨n1,rfl⟩,Ak.nil ..⟩
 generalize σ.ins b1 (.cells #[.slice none 0 0] 26)=τ at hP ⊢
 refine clI FX (VS (h.sub (MW.port.sub hP)) hb he) ?_
 refine UN (by decide) hP fun τ1 hP1=>?_
 clear hP
 refine clB GU (Yo (h.sub (MW.port.sub hP1)) he) ?_
 refine UN (by rw [List.nil_append];split<;>decide) hP1 fun τ2 hP2=>?_
 clear hP1
 intro b13 n13
 obtain ⟨σ1,hb13,hP3⟩:=Av.swap MW.port Av.blk hP2 (S:=Blk b13 (.cells #[.int .i64 ride] 3)) ⟨n13,rfl⟩
 generalize τ2.ins b13 (.cells #[.int .i64 ride] 3)=τ3 at hP3 ⊢
 have hg3:∀ {xs τ},MW b1 xs σ1 τ->τ b13=some (.cells #[.int .i64 ride] 3,true):=fun hP=>MW.port.sub hP _ _ hb13.get
 have hs1:=hb13.nin
 refine clI Dt (WC (p:=tsP ride) (h.sub (hs1.trans (MW.port.sub hP3))) (by omega) rfl fun τ hτ x _=>?_) ?_
 ·refine BO.func GQ (I3 _ _ _ _ _ _ _ _ ?_)
  unfold Db
  refine AD (fun e=>AA (AY (hτ _ _ (hg3 hP3)) rfl (Al ⟨?_,rfl⟩))) (fun e=>Al ⟨?_,rfl⟩)
  ·simp [tsP,e]
  ·simp [tsP,e]
 have hlen2:∀ (p q:Prop) [Decidable p] [Decidable q],((([]:List Int)++if p then [1] else [])++if q then [2] else []).length<=2:=by
  intro p q _ _
  by_cases hp:p<;>by_cases hq:q<;>simp [hp,hq]
 refine UN (Nat.le_trans (hlen2 _ _) (by decide)) hP3 fun τ4 hP4=>?_
 clear hP3
 refine AY (hg3 hP4) rfl ?_
 refine clI FM (VM (h.sub (hs1.trans (MW.port.sub hP4))) (by omega) hr) ?_
 refine UN ?_ hP4 fun τ5 hP5=>?_
 ·rw [List.length_append]
  have:=hlen2 (decide (b.ckd es ride b.R.length<day)=true) ((!PW es ride)=true)
  have h3:∀ (p:Prop) [Decidable p],(if p then [(3:Int)] else []).length<=1:=by
   intro p _
   by_cases hp:p<;>simp [hp]
  have:=h3 ((!decide (lst (tsP ride) ride es=day))=true)
  omega
 clear hP4
 obtain ⟨s,σx,hB,ho⟩:=hP5
 have hg:=ho.sub _ _ hB.get
 refine Bm hg rfl ⟨KN hg (Nat.zero_lt_one),?_⟩
 rw [EO hg]
 have ho:=Av.own.again ho hB.get (.cells #[s.v] 26 (0,0))
 have hB:=hB.again (o':=.cells #[s.v] 26 (0,0))
 refine Bm (ho.sub _ _ hB.get) rfl ?_
 obtain ⟨σz,h6,h7⟩:=Av.own.less (R:=fun a c=>Ak 3 [.int .i64] a s.A s.n s.c _ c) ho (hs1.trans hB.nin)
 refine Bl h7 ⟨s.A,s.n,s.c,rfl,?_⟩
 have e:b.why es ride day=((([]++if decide (b.ckd es ride b.R.length<day)=true then [1] else [])++if (!PW es ride)=true then [2] else [])++if (!decide (lst (tsP ride) ride es=day))=true then [3] else [])++if decide (b.ins es ride<day)=true then [4] else []:=by
  unfold Bok.why
  rw [List.nil_append]
  congr 1
  ·congr 1
   ·congr 1
    ·by_cases hq:b.ckd es ride b.R.length<day<;>simp [hq]
    ·cases PW es ride<;>rfl
   ·by_cases hq:lst (tsP ride) ride es=day<;>simp [hq]
  ·by_cases hq:b.ins es ride<day<;>simp [hq]
 rw [e]
 exact h6
def Y3 (e:TypeId) (ss:List Sh) (σ:Hp) (xs:List (TyR ss)) (n:Int):Value->Hp->Prop:=fun v σ'=>∃ A k c,v=.tuple #[.slice A k c,.int .i64 n]/\Ak e ss σ A k c xs σ'
theorem TB {day:Int} (h:LgR σ w E b es):Ae Tryz.prog MD #[w.v,E.v,.int .i64 day] σ (Y3 3 [.int .i64] σ (b.relD es day) (b.dayE es day)):=by
 refine JK _ _ _ _ _ _ _ _ _ _ _ _ _ _ _ ?_
 unfold DF
 refine AU IW (WM h) ?_
 rintro v σ2 ⟨hs2,w',E',rfl,hh⟩
 refine ⟨_,_,_,_,_,_,_,_,_,_,_,_,_,rfl,BR (fun e=>Bl hs2 ⟨_,_,_,rfl,?_⟩) (fun e=>?_)⟩
 ·have e2:b.relD es day=[]:=if_neg e
  rw [e2];exact Ak.nil ..
 obtain ⟨rfl,hl⟩:=hh e
 obtain ⟨hc,hd⟩:=Bok.dayE0 e
 obtain ⟨hb,_⟩:=Bok.chk_ok hc
 have he:PP (Bok.upE es day):=(Bok.chk_es hc).take _
 have e2:b.relD es day=Qa b (Bok.upE es day) day b.I.length:=if_pos e
 rw [e2,e]
 have hin:=h.b.in
 have h10:=(Bok.ok_spec hb).2.2.1
 refine Af fun J10 h10'=>?_
 refine ⟨fun m A n c i τ=>∃ k:Nat,m=b.I.length-k/\i=k/\k<=b.I.length/\Lse (fun a c'=>Ak 3 [.int .i64] a A n c (Qa b (Bok.upE es day) day k) c') σ2 τ,⟨_,0,rfl,rfl,by omega,⟨_,Ak.nil ..,Hp.Sub.refl _⟩⟩,?_⟩
 rintro m A n c i τ ⟨k,rfl,rfl,hk,ho⟩ _
 have hs:=Lse.sub Av.own ho
 refine AD (fun hlt=>?_) (fun hlt=>?_)
 ·have hkl:k<b.I.length:=by omega
  refine Af fun J20 h20=>?_
  have k20:∀ A n c τ',Lse (fun a c'=>Ak 3 [.int .i64] a A n c (Qa b (Bok.upE es day) day (k+1)) c') σ2 τ'->J20 A n c τ':=by
   intro A n c τ' ho'
   rw [h20]
   intro _
   exact AP (by omega) (AW _ (by omega) ⟨k+1,rfl,by omega,by omega,ho'⟩)
  rw [VG] at k20
  refine AU HZ (Aam (hl.sub hs) hb he (by omega)) ?_
  rintro v τ2 ⟨A2,n2,c2,rfl,ho2⟩
  have hn2:n2=(b.why (Bok.upE es day) (k:Nat) day).length:=ho2.len
  have ho3:=ho.up ho2.sub
  refine ⟨_,_,_,rfl,AD (fun e2=>?_) (fun e2=>k20 _ _ _ _ ?_)⟩
  ·rw [if_pos (by omega)] at k20
   obtain ⟨σ3,ho4,hs4⟩:=Lse.exact Av.own ho3
   refine CE ho4 (Bg (by show (Qa b (Bok.upE es day) day k).length+1<=_;have:=SS b (Bok.upE es day) day k;omega) ?_)
   intro A' n' c' τ3 ho5
   exact k20 _ _ _ _ (Lse.low Av.own (Lse.of ho5) hs4)
  ·rw [if_neg (by omega)]
   exact ho3
 ·obtain rfl:k=b.I.length:=by omega
  rw [h10']
  intro _
  obtain ⟨σ4,h6,h7⟩:=Lse.low Av.own ho hs2
  exact Bl h7 ⟨_,_,_,rfl,h6⟩
end
end Go.Proofs.YtoelhdjloaknbaaGreat
