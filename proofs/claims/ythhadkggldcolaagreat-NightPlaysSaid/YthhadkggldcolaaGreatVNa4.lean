/- Trimmed by wip/trim.py to what this claim rests on. -/
import Derived.Test.YthhadkggldcolaaGreatVNa2
namespace Go.Proofs.YthhadkggldcolaaGreat
set_option maxRecDepth 100000
open Go.RowKit
theorem Vo {α:Type} {P:List α->Prop} (h0:P []) (h1:∀ xs x,P xs->P (xs++[x])) (xs:List α):P xs:=by
 have:∀ ys:List α,P ys.reverse:=fun ys=>by
  induction ys with
  | nil=>exact h0
  | cons y ys ih=>rw [List.reverse_cons];exact h1 _ _ ih
 simpa using this xs.reverse
def scn {α:Type} (f:Ent->Option α) (d:α) (es:List Ent):α:=es.foldl (fun a x=>(f x).getD a) d
theorem Jp {α:Type} {f:Ent->Option α} {d:α} {es:List Ent} {x:Ent}:scn f d (es++[x])=(f x).getD (scn f d es):=by
 unfold scn
 rw [List.foldl_append]
 rfl
theorem Wp {α:Type} {f:Ent->Option α} {d:α} {es:List Ent} (h:∀ j,(h:j<es.length)->f es[j]=none):scn f d es=d:=by
 revert h
 refine Vo (P:=fun es=>(∀ j,(h:j<es.length)->f es[j]=none)->scn f d es=d) (fun _=>rfl) (fun xs x ih h=>?_) es
 have:=h xs.length (by simp)
 rw [List.getElem_append_right (by omega)] at this
 simp at this
 rw [Jp,this]
 refine ih fun j hj=>?_
 have:=h j (by simp;omega)
 rwa [List.getElem_append_left hj] at this
theorem YM {α:Type} {f:Ent->Option α} {d a:α} {es:List Ent} {k:Nat} (hk:k<es.length) (h1:f es[k]=some a) (h2:∀ j,(h:j<es.length)->k<j->f es[j]=none):scn f d es=a:=by
 revert h2 h1 hk
 refine Vo (P:=fun es=>∀ (hk:k<es.length) (_:f es[k]=some a) (_:∀ j,(h:j<es.length)->k<j->f es[j]=none),scn f d es=a) (fun hk=>absurd hk (Nat.not_lt_zero _)) (fun xs x ih hk h1 h2=>?_) es
 have hl:(xs++[x]).length=xs.length+1:=by simp
 rw [Jp]
 by_cases e:k=xs.length
 ·subst e
  rw [List.getElem_append_right (by omega)] at h1
  simp at h1
  rw [h1];rfl
 ·have e1:=h2 xs.length (by omega) (by omega)
  rw [List.getElem_append_right (by omega)] at e1
  simp at e1
  rw [e1]
  have hk':k<xs.length:=by omega
  rw [List.getElem_append_left hk'] at h1
  refine ih hk' h1 fun j hj hkj=>?_
  have:=h2 j (by omega) hkj
  rwa [List.getElem_append_left hj] at this
theorem Ads {v:Value} {p:Prop} (h:GG v=true) (hp:p):one v p:=by
 unfold one
 rw [h]
 exact hp
section
variable {σ:Hp} {w:BkW} {E:SL} {b:Bok} {es:List Ent}
theorem Ab5 {A:Option Addr} {n c:Nat}:Af Tryz.prog GJ #[.slice A n c] σ fun v σ'=>∃ b,v=.func (.func CF) #[] #[.pointer (some ⟨b,0,none⟩)]/\Blk b (.cells #[.slice A n c] 29 (0,0)) σ σ':=by
 refine Fz _ _ _ _ _ ?_
 intro b nb
 exact Ah ⟨b,rfl,nb,rfl⟩
theorem YA {y:Value} {b:Nat} {A:Option Addr} {n c:Nat} {I:Nat->Hp->Prop} {Q:Hp->Prop} (hn:es.length<=4294967296)
  (hI:∀ i τ,I i τ->τ b=some (.cells #[.slice A n c] 29 (0,0),true)/\RdS sEn τ A n es)
  (hy:∀ i (h:i<es.length) τ,I i τ->Cy Tryz.prog y #[.int .i64 ((es.length-1-i:Nat):Int),enV (es[es.length-1-i]'(by omega))] τ fun v τ'=>∃ t:Bool,v=.bool t/\(t=true->I (i+1) τ')/\(t=false->Q τ'))
  (h0:I 0 σ):Af Tryz.prog CF #[y,.pointer (some ⟨b,0,none⟩)] σ fun _ σ'=>I es.length σ'∨Q σ':=by
 refine EQ _ _ _ _ ?_
 unfold Cb
 obtain ⟨g0,r0⟩:=hI _ _ h0
 have hnx:n=es.length:=r0.1
 refine AD (Bd g0 rfl (AT (by omega) ?_))
 refine ⟨fun q i τ=>∃ k:Nat,q=es.length-k/\i=(es.length:Int)-1-k/\k<=es.length/\I k τ,⟨_,0,rfl,by omega,by omega,h0⟩,?_⟩
 rintro q i τ ⟨k,rfl,rfl,hk,hIk⟩ _
 obtain ⟨g1,r1⟩:=hI _ _ hIk
 refine AA (fun hlt=>?_) (fun hge=>?_)
 ·refine AD (Bd g1 rfl ?_)
  have ei:(es.length:Int)-1-k=((es.length-1-k:Nat):Int):=by omega
  rw [ei]
  refine UY r1 (by omega) (by rw [Int.toNat_natCast];omega) fun r hr=>?_
  simp only [Int.toNat_natCast] at hr
  have:=hy k (by omega) τ hIk
  rw [hr] at this
  refine Cy.mono this ?_
  rintro v τ' ⟨t,rfl,ht,hq⟩
  exact ⟨t,rfl,Bp (fun e=>Ah (.inr (hq e))) (fun e=>AT (by omega) (A0 _ (by omega) ⟨k+1,rfl,by omega,by omega,ht e⟩))⟩
 ·obtain rfl:k=es.length:=by omega
  exact Ah (.inl hIk)
abbrev lgO (w:BkW) (E:SL):Obj:=.cells #[w.r.v,w.k.v,w.i.v,E.v] 112 (0,0)
theorem AbY:Af Tryz.prog Oh #[lgV w E] σ fun v σ'=>∃ b,v=.func (.func FQ) #[] #[.pointer (some ⟨b,0,none⟩)]/\Blk b (lgO w E) σ σ':=by
 refine LC _ _ _ _ _ _ _ _ _ _ _ _ _ _ ?_
 intro b nb
 exact Ah ⟨b,rfl,nb,rfl⟩
theorem Xb {y:Value} {b:Nat} {I:Nat->Hp->Prop} {Q:Hp->Prop} (hy1:GG y=true) (hn:es.length<=4294967296)
  (hI:∀ i τ,I i τ->τ b=some (lgO w E,true)/\RdS sEn τ E.A E.n es)
  (hy:∀ i (h:i<es.length) τ,I i τ->Cy Tryz.prog y #[enV (es[es.length-1-i]'(by omega))] τ fun v τ'=>∃ t:Bool,v=.bool t/\(t=true->I (i+1) τ')/\(t=false->Q τ'))
  (h0:I 0 σ):Af Tryz.prog FQ #[y,.pointer (some ⟨b,0,none⟩)] σ fun _ σ'=>I es.length σ'∨Q σ':=by
 refine JD _ _ _ _ ?_
 unfold Dp
 obtain ⟨g0,_⟩:=hI _ _ h0
 refine Ads hy1 (AD (Bd g0 rfl (Be EA Ab5 ?_)))
 rintro v σ5 ⟨bb,rfl,hbb⟩
 refine ⟨_,rfl,?_⟩
 intro b7 n7 l Rec hl hcall
 have hB0:Bxs [(bb,.cells #[E.v] 29 (0,0)),(b7,.cells #[y] 179 (0,0)),(l,Rec .ready none)] σ _:=⟨_,hbb,_,⟨n7,rfl⟩,_,⟨hl,rfl⟩,rfl⟩
 refine Yn.nf DR (Af.mono (YA (es:=es) (y:=.func (.yield l) #[] #[]) (b:=bb) (A:=E.A) (n:=E.n) (c:=E.c)
  (I:=fun i τ=>∃ τ0,I i τ0/\Bxs [(bb,.cells #[E.v] 29 (0,0)),(b7,.cells #[y] 179 (0,0)),(l,Rec .ready none)] τ0 τ)
  (Q:=fun τ=>∃ τ0,Q τ0/\Bxs [(bb,.cells #[E.v] 29 (0,0)),(b7,.cells #[y] 179 (0,0)),(l,Rec .done (some .ret))] τ0 τ)
  hn (fun i τ hh=>?_) (fun i hi τ hh=>?_) ⟨σ,h0,hB0⟩) ?_)
 ·obtain ⟨τ0,h1,h2⟩:=hh
  exact ⟨h2.at (k:=0) rfl,(hI _ _ h1).2.sub h2.sub⟩
 ·obtain ⟨τ0,h1,h2⟩:=hh
  have glb:=h2.at (k:=2) rfl
  refine hcall _ _ _ glb ⟨_,_,_,_,_,_,rfl,fun _=>⟨glb,?_⟩⟩
  have h3:Bxs [(bb,.cells #[E.v] 29 (0,0)),(b7,.cells #[y] 179 (0,0)),(l,Rec .busy none)] τ0 _:=h2.set (k:=2) rfl (Rec .busy none)
  generalize τ.ins l (Rec .busy none)=τ1 at h3 ⊢
  refine ⟨_,Jh (h3.at (k:=1) rfl) rfl,Cy.mono (cl.over Bxs.port (hy i hi τ0 h1) h3) ?_⟩
  rintro v τ2 ⟨τ0',⟨t,rfl,ht,hq⟩,h4⟩
  have gl2:=h4.at (k:=2) rfl
  refine ⟨t,rfl,Bp (fun e=>⟨gl2,false,rfl,fun e=>(by cases e),fun _=>⟨τ0',hq e,?_⟩⟩) (fun e=>⟨gl2,true,rfl,fun _=>⟨τ0',ht e,?_⟩,fun e=>by cases e⟩)⟩
  ·exact h4.set (k:=2) rfl (Rec .done (some .ret))
  ·exact h4.set (k:=2) rfl (Rec .ready none)
 ·rintro v τ (⟨τ0,h1,h2⟩ | ⟨τ0,h1,h2⟩)
  ·refine ⟨.ready,none,h2.at (k:=2) rfl,rfl,?_⟩
   show rt _ (fun (_:Value) σ'=>I es.length σ'∨Q σ') (.tuple #[])
   exact BM (h2.set (k:=2) rfl (Rec .exhausted none)).sub (.inl h1)
  ·refine ⟨.done,some .ret,h2.at (k:=2) rfl,rfl,?_⟩
   show rt _ (fun (_:Value) σ'=>I es.length σ'∨Q σ') (.tuple #[])
   exact BM (h2.set (k:=2) rfl (Rec .exhausted (some .ret))).sub (.inr h1)
def F0 (p:Ent->Bool) (ride:Int) (x:Ent):Option Int:=if p x then some x.1 else if x.2.1=6/\x.2.2.1=ride then some (-1) else none
def lst (p:Ent->Bool) (ride:Int) (es:List Ent):Int:=scn (F0 p ride) (-1) es
theorem Abz {f:Value} {p:Ent->Bool} {ride:Int} (h:LgR σ w E b es) (hl:es.length<=4294967296) (hf1:GG f=true) (hf:∀ τ,Hp.Sub σ τ->∀ x∈es,cl Tryz.prog f #[enV x] τ fun v σ'=>v=.bool (p x)/\σ'=τ):
  Af Tryz.prog Og #[lgV w E,.int .i64 ride,f] σ fun v σ'=>v=.int .i64 (lst p ride es)/\σ'=σ:=by
 refine Lt _ _ _ _ _ _ _ _ _ _ _ _ _ _ _ _ ?_
 unfold Er
 refine Ads hf1 (Ad fun J3 h3=>?_)
 refine Be DW AbY ?_
 rintro v σ12 ⟨bb,rfl,hbb⟩
 refine ⟨_,rfl,?_⟩
 intro b14 n14 b16 n16 b18 n18 lb Rec nlb hcall
 have hB0:Bxs [(bb,lgO w E),(b14,.cells #[.int .i64 ride] 3),(b16,.cells #[f] 179),(b18,.cells #[.int .i64 0] 3),(lb,Rec .ready none)] σ _:=⟨_,hbb,_,⟨n14,rfl⟩,_,⟨n16,rfl⟩,_,⟨n18,rfl⟩,_,⟨nlb,rfl⟩,rfl⟩
 refine Yn.nf Dn (Af.mono (Xb (w:=w) (E:=E) (es:=es) (y:=.func (.yield lb) #[] #[]) (b:=bb)
  (I:=fun i τ=>(∀ j (h:j<es.length),j<i->F0 p ride (es[es.length-1-j]'(by omega))=none)/\Bxs [(bb,lgO w E),(b14,.cells #[.int .i64 ride] 3),(b16,.cells #[f] 179),(b18,.cells #[.int .i64 0] 3),(lb,Rec .ready none)] σ τ)
  (Q:=fun τ=>Bxs [(bb,lgO w E),(b14,.cells #[.int .i64 ride] 3),(b16,.cells #[f] 179),(b18,.cells #[.int .i64 (lst p ride es)] 3),(lb,Rec .done (some .ret))] σ τ)
  rfl hl (fun i τ hh=>⟨hh.2.at (k:=0) rfl,h.e.sub hh.2.sub⟩) (fun i hi τ hh=>?_) ⟨fun j _ h=>absurd h (Nat.not_lt_zero _),hB0⟩) ?_)
 ·obtain ⟨hno,hB⟩:=hh
  have glb:=hB.at (k:=4) rfl
  refine hcall _ _ _ glb ⟨_,_,_,_,_,rfl,fun _=>⟨glb,?_⟩⟩
  have h3:Bxs [(bb,lgO w E),(b14,.cells #[.int .i64 ride] 3),(b16,.cells #[f] 179),(b18,.cells #[.int .i64 0] 3),(lb,Rec .busy none)] σ _:=hB.set (k:=4) rfl (Rec .busy none)
  generalize τ.ins lb (Rec .busy none)=τ1 at h3 ⊢
  have hx:=hf τ1 h3.sub _ (List.getElem_mem (l:=es) (n:=es.length-1-i) (by omega))
  have hlater:∀ j,(hj:j<es.length)->es.length-1-i<j->F0 p ride es[j]=none:=fun j hj h1=>by
   have:=hno (es.length-1-j) (by omega) (by omega)
   have e1:es.length-1-(es.length-1-j)=j:=by omega
   simp only [e1] at this
   exact this
  have hres:∀ a,F0 p ride (es[es.length-1-i]'(by omega))=some a->lst p ride es=a:=fun a ha=>YM (by omega) ha hlater
  have hgo:F0 p ride (es[es.length-1-i]'(by omega))=none->∀ j (h:j<es.length),j<i+1->F0 p ride (es[es.length-1-j]'(by omega))=none:=fun hn j hj h1=>by
   rcases Nat.lt_or_ge j i with a | a
   ·exact hno j hj a
   ·obtain rfl:j=i:=by omega
    exact hn
  clear hno hlater
  generalize es[es.length-1-i]'(by omega)=x at *
  refine ⟨_,Jh (h3.at (k:=2) rfl) rfl,Cy.mono hx ?_⟩
  rintro _ τ9 ⟨rfl,rfl⟩
  have hout:∀ a,F0 p ride x=some a->st τ9 b18 0 (.int .i64 a) fun σ38=>rgx lb Rec (fun v τ'=>∃ t,v=.bool t/\(t=true->(∀ j (h:j<es.length),j<i+1->F0 p ride (es[es.length-1-j]'(by omega))=none)/\Bxs [(bb,lgO w E),(b14,.cells #[.int .i64 ride] 3),(b16,.cells #[f] 179),(b18,.cells #[.int .i64 0] 3),(lb,Rec .ready none)] σ τ')/\(t=false->Bxs [(bb,lgO w E),(b14,.cells #[.int .i64 ride] 3),(b16,.cells #[f] 179),(b18,.cells #[.int .i64 (lst p ride es)] 3),(lb,Rec .done (some .ret))] σ τ')) σ38 .ret:=by
   intro a ha
   refine h3.stv (k:=3) rfl (by decide) fun τ2 h4=>?_
   have h4:Bxs [(bb,lgO w E),(b14,.cells #[.int .i64 ride] 3),(b16,.cells #[f] 179),(b18,.cells #[.int .i64 a] 3),(lb,Rec .busy none)] σ τ2:=h4
   refine ⟨h4.at (k:=4) rfl,false,rfl,fun e=>(by cases e),fun _=>?_⟩
   rw [hres a ha]
   exact h4.set (k:=4) rfl (Rec .done (some .ret))
  refine ⟨_,rfl,BI (fun e=>hout _ ?_) (fun e=>Ad fun J41 h41=>?_)⟩
  ·unfold F0;rw [if_pos e]
  ·have k41:∀ t,t=decide (x.2.1=6/\x.2.2.1=ride)->J41 t τ9:=by
    rintro t rfl
    rw [h41]
    intro _
    refine AA (fun a=>hout _ ?_) (fun a=>⟨h3.at (k:=4) rfl,true,rfl,fun _=>⟨hgo ?_,h3.set (k:=4) rfl (Rec .ready none)⟩,fun e=>by cases e⟩)
    ·unfold F0;rw [e,if_neg (by decide),if_pos a]
    ·unfold F0;rw [e,if_neg (by decide),if_neg a]
   refine AA (fun a=>Bs (h3.at (k:=1) rfl) rfl (k41 _ ?_)) (fun a=>k41 _ ?_)
   ·simp [a]
   ·simp [a]
 ·rintro v τ (⟨hno,hB⟩ | hB)
  ·refine ⟨.ready,none,hB.at (k:=4) rfl,rfl,?_⟩
   have hB:=hB.set (k:=4) rfl (Rec .exhausted none)
   generalize τ.ins lb (Rec .exhausted none)=τ1 at hB ⊢
   show J3 _ _
   rw [h3]
   intro _
   refine AD (hB.stv (k:=3) rfl (by decide) fun τ2 h4=>AD (Bs (h4.at (k:=3) rfl) rfl (BM h4.sub ⟨?_,rfl⟩)))
   have:lst p ride es=-1:=Wp fun j hj=>by
    have:=hno (es.length-1-j) (by omega) (by omega)
    have e1:es.length-1-(es.length-1-j)=j:=by omega
    simp only [e1] at this
    exact this
   rw [this]
  ·refine ⟨.done,some .ret,hB.at (k:=4) rfl,rfl,?_⟩
   have hB:=hB.set (k:=4) rfl (Rec .exhausted (some .ret))
   generalize τ.ins lb (Rec .exhausted (some .ret))=τ1 at hB ⊢
   exact Bs (hB.at (k:=3) rfl) rfl (BM hB.sub ⟨rfl,rfl⟩)
end
end Go.Proofs.YthhadkggldcolaaGreat
