/- What this claim rests on. -/
import Derived.Test.YtoelhdjloaknbaaGreatYNo1
namespace Go.Proofs.YtoelhdjloaknbaaGreat
open Go.RowKit Go.Proofs.Tryz
def Vis.ride (v:Vis):Int:=v.2.2.1
def Vis.on (v:Vis):Bool:=v.2.2.2.1
def hv (V:List Vis) (g:Int):List Vis:=V.filter fun v=>decide (v.1=g)
section
variable {S:Pl} {ex:Int} {p:Int->Nat} {fx lf:Int} {c:Nat} {g:Int}
theorem Adp {xs:List Int} {i k v:Int} (hi:0<=i) (hk:0<=k) (h:k≠i):gt (xs.set i.toNat v) k=gt xs k:=by
 have:k.toNat≠i.toNat:=fun e=>h (by rwa [BB hk hi] at e)
 unfold gt
 simp only [List.getD,List.getElem?_set]
 rw [if_neg fun h'=>this h'.symm]
theorem ZE {xs:List Int} {i v:Int} (h:i.toNat<xs.length):gt (xs.set i.toNat v) i=v:=by
 unfold gt
 simp [List.getD,h]
end
section
variable {S:Pl} {ex:Int} {p:Int->Nat} {fx lf:Int} {c:Nat} {g:Int}
end
section
variable {S:Pl} {ex:Int} {p:Int->Nat} {fx lf:Int} {c:Nat} {g:Int}
def pst (a n:Nat):Int->Nat:=fun g=>if g<(n:Int) then a+1 else a
end
section
variable {w:Int} {B:List BthG} {G:List Grp}
end
section
variable {σ:Hp} {w:Int} {r l:SL} {B:List BthG} {ws:Nat->SL} {G:List Grp}
end
def pd (B:List BthG) (G:List Grp) (V:List Vis) (r:Int):Int:=AQ (V.map fun v=>if v.on=true/\v.ride=r then (bd B r).price*(gd G v.1).size else 0)
theorem Acq {B:List BthG} {G:List Grp} {V:List Vis} {r:Int} {v:Vis}:pd B G (V++[v]) r=pd B G V r+if v.on=true/\v.ride=r then (bd B r).price*(gd G v.1).size else 0:=by
 unfold pd
 rw [List.map_append,Dw]
 simp [AQ]
theorem AgT {B:List BthG} {G:List Grp} {r:Int} {V V':List Vis} (h:V.Perm V'):pd B G V r=pd B G V' r:=by
 unfold pd
 induction h with
 | nil=>rfl
 | cons _ _ ih=>simp only [List.map_cons,AQ,ih]
 | swap _ _ _=>simp only [List.map_cons,AQ];omega
 | trans _ _ h1 h2=>exact h1.trans h2
theorem Ut:∀ {xs:List Int} {i:Nat} {v:Int},i<xs.length->AQ (xs.set i v)=AQ xs-xs.getD i 0+v
 | x::xs,0,v,_=>by simp [AQ];omega
 | x::xs,i+1,v,h=>by
  have ih:=Ut (xs:=xs) (i:=i) (v:=v) (by simpa using h)
  rw [List.set_cons_succ,AQ,AQ,ih]
  have:(x::xs).getD (i+1) 0=xs.getD i 0:=rfl
  rw [this]
  omega
def Pl.tks (S:Pl):List Int:=S.guests.map Gs.tokens
structure Pl.Mn (S:Pl):Prop where
 t:∀ r:Int,0<=r->r<S.B.length->gt S.takes r=pd S.B S.G S.visits r
 s:AQ S.tks+AQ S.takes=AQ (S.G.map Grp.tokens)
 v:∀ x∈S.visits,0<=x.ride/\x.ride<S.B.length
section
variable {S T:Pl} {c:Nat} {g:Int}
theorem Pl.Mn.congr (h:S.Mn) (sm:S.Sm T) (e1:T.takes=S.takes) (e2:T.visits=S.visits) (e3:T.tks=S.tks):T.Mn:=by
 refine ⟨?_,?_,?_⟩
 ·rw [sm.b,sm.g,e1,e2];exact h.t
 ·rw [e3,e1,sm.g];exact h.s
 ·rw [sm.b,e2];exact h.v
theorem AaX {x:Gs} (hg:g.toNat<S.guests.length) (h:x.tokens=(S.gu g).tokens):(S.setG g x).tks=S.tks:=by
 show (S.guests.set g.toNat x).map Gs.tokens=S.guests.map Gs.tokens
 apply List.ext_getElem
 ·simp
 ·intro i h1 h2
  simp only [List.getElem_map,List.getElem_set]
  split
  ·rename_i e
   subst e
   rw [h]
   simp [Pl.gu,List.getD,hg]
  ·rfl
theorem Ae1 (hg:g.toNat<S.guests.length):(S.on g).takes=S.takes/\(S.on g).visits=S.visits/\(S.on g).tks=S.tks:=by
 rw [Pl.on_eq S hg]
 exact ⟨rfl,rfl,AaX (x:=S.onx g) hg rfl⟩
theorem Pl.Mn.on (h:S.Mn) (hg:g.toNat<S.guests.length):(S.on g).Mn:=by
 obtain ⟨a,b,d⟩:=Ae1 hg
 exact h.congr (Pl.Sm.on S g) a b d
theorem Pl.Mn.stand (h:S.Mn) (hg:g.toNat<S.guests.length):(S.stand g).Mn:=
 h.congr (Pl.Sm.stand S g) rfl rfl (AaX (x:={ S.gu g with st:=2,since:=S.now }) hg rfl)
theorem Pl.Mn.leave (h:S.Mn) (ok:S.Ok c) (g0:0<=g) (g1:g<S.G.length) (hs:(S.gu g).st=2) (b:Bool):(S.leave g b).Mn:=by
 have hg:=ok.gs g g0 g1
 have hw:=hg.w3 (by omega)
 have hw1:=hg.w2 (by omega)
 obtain ⟨q0,q1⟩:=ok.want hw hw1
 have hgl:g.toNat<S.guests.length:=by rw [ok.lg];omega
 have hrl:(gt (S.gr g).wants (S.gu g).want).toNat<S.takes.length:=by rw [ok.lt];omega
 have hvv:∀ y:Vis,y.ride=gt (S.gr g).wants (S.gu g).want->∀ x∈S.visits++[y],0<=x.ride/\x.ride<S.B.length:=fun y hy x hx=>by
  rcases List.mem_append.1 hx with hx | hx
  ·exact h.v x hx
  ·rw [List.mem_singleton] at hx
   subst hx
   rw [hy]
   exact ⟨q0,q1⟩
 unfold Pl.leave
 split
 ·refine ⟨fun r r0 r1=>?_,?_,hvv _ rfl⟩
  ·show gt (S.takes.set _ _) r=pd S.B S.G (S.visits++[_]) r
   rw [Acq]
   by_cases e:r=gt (S.gr g).wants (S.gu g).want
   ·subst e
    rw [ZE hrl,h.t _ q0 q1,if_pos ⟨rfl,rfl⟩]
    rfl
   ·rw [Adp q0 r0 e,h.t r r0 r1,if_neg (fun h'=>e h'.2.symm),Int.add_zero]
  ·have hs:=h.s
   have e1:(((S.unq g true).setG g { S.gu g with st:=3,since:=S.now,tokens:=(S.gu g).tokens-S.price g }).setT (gt (S.gr g).wants (S.gu g).want) (gt S.takes (gt (S.gr g).wants (S.gu g).want)+S.price g)).tks=S.tks.set g.toNat ((S.gu g).tokens-S.price g):=List.map_set ..
   rw [e1]
   show _+AQ (S.takes.set _ _)=_
   have e2:S.tks.getD g.toNat 0=(S.gu g).tokens:=by simp [Pl.tks,Pl.gu,List.getD,hgl]
   have e3:S.takes.getD (gt (S.gr g).wants (S.gu g).want).toNat 0=gt S.takes (gt (S.gr g).wants (S.gu g).want):=rfl
   rw [Ut (by unfold Pl.tks;rw [List.length_map];exact hgl),Ut hrl,e2,e3]
   show _=AQ (S.G.map Grp.tokens)
   omega
 ·have hu:(S.unq g false).Mn:=by
   refine ⟨fun r r0 r1=>?_,h.s,hvv _ rfl⟩
   show gt S.takes r=pd S.B S.G (S.visits++[_]) r
   rw [Acq,if_neg (by intro h';cases h'.1),Int.add_zero]
   exact h.t r r0 r1
  exact hu.on hgl
theorem Pl.Mn.fold {f:Pl->Int->Pl} {d:Nat} (h:S.Mn) (ok:S.Ok c):∀ n:Nat,(∀ (T:Pl) (c':Nat),T.Ok c'->S.Sm T->∀ k:Nat,k<n->(f T k).Ok (c'+d)/\T.Sm (f T k))->(∀ (T:Pl) (c':Nat),T.Ok c'->S.Sm T->T.Mn->∀ k:Nat,k<n->(f T k).Mn)->((BE n).foldl f S).Mn
 | 0,_,_=>h
 | n+1,h1,h2=>by
  obtain ⟨a,b⟩:=O3 ok n fun T c' t1 t2 k hk=>h1 T c' t1 t2 k (by omega)
  rw [OL]
  exact h2 _ _ a b (h.fold ok n (fun T c' t1 t2 k hk=>h1 T c' t1 t2 k (by omega)) fun T c' t1 t2 t3 k hk=>h2 T c' t1 t2 t3 k (by omega)) n (by omega)
theorem Pl.Mn.fill {r:Int} (q:List Int):∀ (left:Int) (T:Pl) (c:Nat),Px T r q c->T.Mn->(BX r q left T).1.Mn:=by
 induction q with
 | nil=>exact fun left T c _ h=>h
 | cons g q ih=>
  intro left T c fo h
  obtain ⟨g0,g1,gs,gw⟩:=fo.el g (List.mem_cons_self ..)
  rw [V4]
  split
  ·exact ih left _ (c+1) (fo.leave fun e=>by cases e) (h.leave fo.ok g0 g1 gs false)
  ·rename_i hbad
   split
   ·exact ih (left-(T.gr g).size) _ (c+1) (fo.leave fun _=>by simpa using hbad) (h.leave fo.ok g0 g1 gs true)
   ·split
    ·exact ih left T (c+1) fo.skip h
    ·exact h
theorem Pl.Mn.begin (h:S.Mn) (ok:S.Ok c) {r:Int} (r0:0<=r) (r1:r<S.B.length):(S.begin r).Mn:=by
 unfold Pl.begin
 split
 ·exact h
 have h2:=Pl.Mn.fill (r:=r) (S.qu r) (S.bt r).seats S c (Px.of ok r0 r1) h
 split
 ·exact h2.congr (Pl.Sm.setB _ _ _) rfl rfl rfl
 ·exact h2
theorem Pl.Mn.begins (h:S.Mn) (ok:S.Ok c):∀ n:Nat,n<=S.B.length->(S.begins n).Mn
 | 0,_=>h
 | n+1,hn=>by
  obtain ⟨h1,h2⟩:=ok.beginF n (by omega)
  rw [Pl.begins_succ]
  exact (h.begins ok n (by omega)).begin h1 (by omega) (by rw [h2.b];omega)
theorem Pl.Mn.tick (h:S.Mn) (ok:S.Ok c):S.tick.Mn:=by
 have glen:∀ {T U:Pl} {c':Nat},T.Ok c'->U.Sm T->∀ k:Nat,k<U.G.length->(k:Int).toNat<T.guests.length:=fun t1 t2 k hk=>by rw [t1.lg,t2.g];omega
 have h1:(S.endK S.B.length).Mn:=h.congr (Pl.Sm.endK S _) rfl rfl rfl
 obtain ⟨ok5,sm5⟩:S.end_.Ok c/\S.Sm S.end_:=ok.endF (Nat.le_refl _)
 have h2:S.end_.Mn:=h1.fold (f:=Pl.off1) (d:=0) (ok.endK S.B.length) S.G.length (fun T c' t1 t2 k hk=>t1.off2 (by omega) (by rw [t2.g];show (k:Int)<(S.G.length:Int);omega)) fun T c' t1 t2 t3 k hk=>by
  unfold Pl.off1
  split
  ·exact t3.on (glen t1 t2 k hk)
  ·exact t3
 obtain ⟨ok8,sm8⟩:S.end_.come.Ok c/\S.end_.Sm S.end_.come:=ok5.comeF (Nat.le_refl _)
 have h3:S.end_.come.Mn:=h2.fold (f:=Pl.come1) (d:=0) ok5 S.end_.G.length (fun T c' t1 t2 k hk=>⟨t1.come1 (by omega) (by rw [t2.g];omega),Pl.Sm.come1 T k⟩) fun T c' t1 t2 t3 k hk=>by
  unfold Pl.come1
  split
  ·exact t3.on (glen t1 t2 k hk)
  ·split
   ·exact t3.stand (glen t1 t2 k hk)
   ·exact t3
 have h4:S.rest.Mn:=h3.fold (f:=Pl.quit1) (d:=1) ok8 S.end_.come.G.length (fun T c' t1 t2 k hk=>t1.quit2 (by omega) (by rw [t2.g];omega)) fun T c' t1 t2 t3 k hk=>by
  unfold Pl.quit1
  split
  ·rename_i e
   unfold Pl.quits at e
   simp only [Bool.and_eq_true,decide_eq_true_eq] at e
   exact t3.leave t1 (by omega) (by rw [t2.g];omega) e.1 false
  ·exact t3
 obtain ⟨okr,smr⟩:=ok.rest
 have h5:=h4.begins okr S.B.length (by rw [smr.b];exact Nat.le_refl _)
 exact h5.congr (Pl.Sm.lineK _ _) rfl rfl rfl
end
section
variable {w:Int} {B:List BthG} {G:List Grp}
theorem X6:∀ n:Nat,AQ (List.replicate n 0)=0
 | 0=>rfl
 | n+1=>by rw [List.replicate_succ,AQ,X6 n];rfl
theorem Ag0:(Pl.init w B G).Mn:=by
 refine ⟨fun r r0 r1=>?_,?_,fun x hx=>by cases hx⟩
 ·show gt (List.replicate B.length 0) r=0
  have r1:r<B.length:=r1
  have:r.toNat<B.length:=by omega
  unfold gt
  simp [List.getD,this]
 ·show AQ ((G.map fun g=>(⟨0,-1,0,g.tokens⟩:Gs)).map Gs.tokens)+AQ (List.replicate B.length 0)=_
  rw [List.map_map,X6,Int.add_zero]
  rfl
theorem Ae9 (hv:Val w B G):∀ k:Nat,k<=4001->(Pl.run w B G k).Mn
 | 0,_=>Ag0
 | k+1,hk=>by
  obtain ⟨ok,h2,h3,h4⟩:=OP hv k (by omega)
  have h:=(Ae9 hv k (by omega)).tick ok
  exact ⟨h.t,h.s,h.v⟩
structure MnD (B:List BthG) (G:List Grp) (V:List Vis) (tk hd:List Int):Prop where
 lt:tk.length=B.length
 lh:hd.length=G.length
 p:∀ r:Int,0<=r->r<B.length->gt tk r=pd B G V r
 s:AQ hd+AQ tk=AQ (G.map Grp.tokens)
 h:∀ g:Int,0<=g->g<G.length->0<=gt hd g/\gt hd g<=10000
 t:∀ r:Int,0<=r->r<B.length->0<=gt tk r/\gt tk r<=10000000000
 r:∀ x∈V,0<=x.ride/\x.ride<B.length
theorem Pl.Mn.done {S:Pl} {c:Nat} (h:S.Mn) (ok:S.Ok c) (hc:c<=2200000) (e2:S.B=B) (e3:S.G=G):MnD B G (VY S.visits) S.takes (S.guests.map Gs.tokens):=by
 subst e2 e3
 refine ⟨ok.lt,by rw [List.length_map];exact ok.lg,fun r r0 r1=>?_,h.s,fun g g0 g1=>?_,fun r r0 r1=>?_,fun x hx=>h.v x ((CD vle S.visits).mem_iff.1 hx)⟩
 ·rw [h.t r r0 r1]
  exact (AgT (CD vle S.visits)).symm
 ·have hg:g.toNat<S.guests.length:=by rw [ok.lg];omega
  have e:gt (S.guests.map Gs.tokens) g=(S.gu g).tokens:=by simp [gt,Pl.gu,List.getD,hg]
  rw [e]
  exact (ok.gs g g0 g1).t
 ·have:=ok.tk r r0 r1
  omega
theorem Fs (hv:Val w B G):MnD B G (Ngt.played w B G).visits ((Ngt.played w B G).rides.map Bth.takes) ((Ngt.played w B G).parties.map Pty.purse):=by
 obtain ⟨ok,_,e2,e3⟩:=OP hv 4001 (Nat.le_refl _)
 have h:=Ae9 hv 4001 (Nat.le_refl _)
 obtain ⟨_,s2,s3,_,s5⟩:=Z7 hv
 rw [P1,← s2,← s3,← s5]
 generalize Pl.run w B G 4001=S at *
 exact h.done ok (by omega) e2 e3
end
end Go.Proofs.YtoelhdjloaknbaaGreat
