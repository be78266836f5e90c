/- What this claim rests on. -/
import Derived.Test.YtoelhdjloaknbaaGreatUB12
import Derived.Test.YtoelhdjloaknbaaGreatUQ2
namespace Go.Proofs.YtoelhdjloaknbaaGreat
open Go.RowKit Go.Proofs.Tryz
structure BthG where
 seats:Int
 price:Int
 cycle:Int
 pause:Int
 fill:Bool
structure Grp where
 came:Int
 size:Int
 tokens:Int
 wants:List Int
 patience:Int
structure Bth where
 b:BthG
 on:List Int
 begun:Int
 ended:Int
 queue:List (Int×Int)
 takes:Int
 line:Int
structure Pty where
 g:Grp
 wish:Int
 purse:Int
 comes:Int
 home:Int
abbrev Vis:=Int×Int×Int×Bool×Int×Int
structure Ngt where
 walk:Int
 rides:List Bth
 parties:List Pty
 tick:Int
 visits:List Vis
def Bth.d:Bth:=⟨⟨0,0,0,0,false⟩,[],0,0,[],0,0⟩
def Pty.d:Pty:=⟨⟨0,0,0,[],0⟩,0,0,0,0⟩
def Ngt.pa (N:Ngt) (g:Int):Pty:=N.parties.getD g.toNat Pty.d
def Ngt.bo (N:Ngt) (i:Int):Bth:=N.rides.getD i.toNat Bth.d
def Ngt.setP (N:Ngt) (g:Int) (p:Pty):Ngt:={ N with parties:=N.parties.set g.toNat p }
def Ngt.setR (N:Ngt) (i:Int) (r:Bth):Ngt:={ N with rides:=N.rides.set i.toNat r }
def Ngt.setV (N:Ngt) (v:List Vis):Ngt:={ N with visits:=v }
def Ngt.setT (N:Ngt) (t:Int):Ngt:={ N with tick:=t }
theorem Ak.putb {e:TypeId} {ss:List Sh} {s1 σ2:Hp} {A:aA} {n c:Nat} {xs:List (TyR ss)} (h:Ak e ss s1 A n c xs σ2) {b k:Nat} {x:Obj×Bool} (hb:s1 b=some x) (v:Value):Ak e ss (s1.put ⟨b,k,none⟩ v) A n c xs (σ2.put ⟨b,k,none⟩ v):=
 Ay.put (R:=fun σ σ'=>Ak e ss σ A n c xs σ') Ay.own h hb v
structure SL where
 A:aA
 n:Nat
 c:Nat
def SL.v (s:SL):Value:=aN s.A s.n s.c
abbrev sQ:List Sh:=[.int .i64,.int .i64]
abbrev sV:List Sh:=[.int .i64,.int .i64,.int .i64,.bool,.int .i64,.int .i64]
structure NW where
 nb:Nat
 r:SL
 p:SL
 rs:List Nat
 ps:List Nat
 ws:Nat->SL
def pto (b:Nat):aA:=some ⟨b,0,none⟩
def NW.rb (W:NW) (i:Int):Nat:=W.rs.getD i.toNat 0
def NW.pb (W:NW) (g:Int):Nat:=W.ps.getD g.toNat 0
structure NSt (W:NW) (σ:Hp) (nr:Nat) (G:List Grp):Prop where
 r:RdS [.ptr] σ W.r.A W.r.n (W.rs.map pto)
 p:RdS [.ptr] σ W.p.A W.p.n (W.ps.map pto)
 w:∀ i,(h:i<G.length)->RdS aM σ (W.ws i).A (W.ws i).n G[i].wants
 lr:W.rs.length=nr
 lp:W.ps.length=G.length
theorem NSt.sub {W:NW} {σ σ':Hp} {nr:Nat} {G:List Grp} (h:NSt W σ nr G) (hs:Hp.Sub σ σ'):NSt W σ' nr G:=
 ⟨h.r.sub hs,h.p.sub hs,fun i hi=>(h.w i hi).sub hs,h.lr,h.lp⟩
def Je (W:NW) (N:Ngt) (v:SL):Array Value:=#[aD N.walk,W.r.v,W.p.v,aD N.tick,v.v]
def FT (r:Bth) (o q:SL):Array Value:=#[aD r.b.seats,aD r.b.price,aD r.b.cycle,aD r.b.pause,.bool r.b.fill,o.v,aD r.begun,aD r.ended,q.v,aD r.takes,aD r.line]
def KP (w:SL) (p:Pty):Array Value:=#[aD p.g.came,aD p.g.size,aD p.g.tokens,w.v,aD p.g.patience,aD p.wish,aD p.purse,aD p.comes,aD p.home]
def T5 (W:NW) (N:Ngt):Rel:=fun σ σ'=>∃ v,(Blk W.nb (.cells (Je W N v) 186 (0,0))).seq (fun s1 σ2=>Ak 75 sV s1 v.A v.n v.c N.visits σ2) σ σ'
def GR (b:Nat) (r:Bth):Rel:=fun σ σ'=>∃ o q,((Blk b (.cells (FT r o q) 172 (0,0))).seq (fun s1 σ2=>Ak 3 aM s1 o.A o.n o.c r.on σ2)).seq (fun s1 σ2=>Ak 240 sQ s1 q.A q.n q.c r.queue σ2) σ σ'
def GG (b:Nat) (w:SL) (p:Pty):Rel:=Blk b (.cells (KP w p) 165 (0,0))
theorem Ay.core {W:NW} {N:Ngt}:Ay (T5 W N):=Ay.ex fun _=>Ay.seq Ay.blk Ay.own
theorem Ay.booth {b:Nat} {r:Bth}:Ay (GR b r):=Ay.ex fun _=>Ay.ex fun _=>Ay.seq (Ay.seq Ay.blk Ay.own) Ay.own
theorem Ay.party {b:Nat} {w:SL} {p:Pty}:Ay (GG b w p):=Ay.blk
def BP (W:NW) (rs:List Bth):List Rel:=(List.range rs.length).map fun i=>GR (W.rs.getD i 0) (rs.getD i Bth.d)
def Es (W:NW) (ps:List Pty):List Rel:=(List.range ps.length).map fun i=>GG (W.ps.getD i 0) (W.ws i) (ps.getD i Pty.d)
def BK (W:NW) (N:Ngt):List Rel:=T5 W N::(BP W N.rides++Es W N.parties)
theorem CX {W:NW} {N:Ngt}:∀ R∈BK W N,Ay R:=by
 intro R hR
 rcases List.mem_cons.1 hR with rfl | hR
 ·exact Ay.core
 ·rcases List.mem_append.1 hR with hR | hR
  ·obtain ⟨i,_,rfl⟩:=List.mem_map.1 hR
   exact Ay.booth
  ·obtain ⟨i,_,rfl⟩:=List.mem_map.1 hR
   exact Ay.party
def Ar (W:NW) (s0 σ:Hp) (N:Ngt):Prop:=Lse (CI (BK W N)) s0 σ
theorem Cg {W:NW} {N:Ngt}:Ay (CI (BK W N)):=Ay.star CX
theorem Ar.sub {W:NW} {s0 σ:Hp} {N:Ngt} (h:Ar W s0 σ N):Hp.Sub s0 σ:=Lse.sub Cg h
theorem Ar.up {W:NW} {s0 σ σ':Hp} {N:Ngt} (h:Ar W s0 σ N) (hs:Hp.Sub σ σ'):Ar W s0 σ' N:=Lse.up h hs
theorem Ar.low {W:NW} {s0 s1 σ:Hp} {N:Ngt} (h:Ar W s1 σ N) (hs:Hp.Sub s0 s1):Ar W s0 σ N:=Lse.low Cg h hs
theorem RE {α β:Type} {f:Nat->α->β} {xs:List α} {d a:α} {k:Nat} (hk:k<xs.length):(List.range (xs.set k a).length).map (fun i=>f i ((xs.set k a).getD i d))=((List.range xs.length).map fun i=>f i (xs.getD i d)).set k (f k a):=by
 apply List.ext_getElem
 ·simp
 ·intro i h1 h2
  simp only [List.length_map,List.length_range,List.length_set] at h1
  simp only [List.getElem_map,List.getElem_range,List.getElem_set]
  by_cases e:k=i
  ·subst e
   simp [List.getD,hk]
  ·rw [if_neg e]
   simp [List.getD,h1,e]
theorem S9 {W:NW} {rs:List Bth} {r:Bth} {k:Nat} (hk:k<rs.length):BP W (rs.set k r)=(BP W rs).set k (GR (W.rs.getD k 0) r):=RE (f:=fun i r=>GR (W.rs.getD i 0) r) hk
theorem Sn {W:NW} {ps:List Pty} {p:Pty} {k:Nat} (hk:k<ps.length):Es W (ps.set k p)=(Es W ps).set k (GG (W.ps.getD k 0) (W.ws k) p):=RE (f:=fun i p=>GG (W.ps.getD i 0) (W.ws i) p) hk
theorem PK {rs:List Rel} {s0 σ:Hp} {k:Nat} (hp:∀ R∈rs,Ay R) (hk:k<rs.length) (h:Lse (CI rs) s0 σ):
  ∃ s1,rs[k] s1 σ/\∀ R' σ2 σ',Ay R'->R' s1 σ2->Hp.Sub σ2 σ'->Lse (CI (rs.set k R')) s0 σ':=by
 obtain ⟨σ3,h1,h2⟩:=h
 obtain ⟨s1,h3,h4⟩:=QD hp hk h1
 obtain ⟨s1',h5,h6⟩:=(hp _ (List.getElem_mem hk)).junk h4 h2
 refine ⟨s1',h5,fun R' σ2 σ' hR' hr hs=>?_⟩
 obtain ⟨s4,h7,h8⟩:=hR'.less hr h6
 exact ⟨s4,T6 hp hR' hk h3 h7,h8.trans hs⟩
section
variable {W:NW} {s0 σ:Hp} {N:Ngt}
theorem Ar.core (h:Ar W s0 σ N):∃ s1,T5 W N s1 σ/\∀ N' σ2 σ',N'.rides=N.rides->N'.parties=N.parties->T5 W N' s1 σ2->Hp.Sub σ2 σ'->Ar W s0 σ' N':=by
 obtain ⟨s1,h1,h2⟩:=PK (k:=0) CX (by simp [BK]) h
 refine ⟨s1,h1,fun N' σ2 σ' e1 e2 hc hs=>?_⟩
 have:=h2 _ _ _ Ay.core hc hs
 unfold Ar BK
 rw [e1,e2]
 exact this
theorem Ar.booth (h:Ar W s0 σ N) {i:Int} (hi:i.toNat<N.rides.length):∃ s1,GR (W.rb i) (N.bo i) s1 σ/\∀ r' σ2 σ',GR (W.rb i) r' s1 σ2->Hp.Sub σ2 σ'->Ar W s0 σ' (N.setR i r'):=by
 have hk:i.toNat<(BP W N.rides).length:=by simpa [BP] using hi
 obtain ⟨s1,h1,h2⟩:=PK (k:=i.toNat+1) CX (by simp [BK];omega) h
 refine ⟨s1,?_,fun r' σ2 σ' hc hs=>?_⟩
 ·have e:(BK W N)[i.toNat+1]'(by simp [BK];omega)=GR (W.rb i) (N.bo i):=by
   simp only [BK,List.getElem_cons_succ]
   rw [List.getElem_append_left hk]
   simp [BP,NW.rb,Ngt.bo]
  rw [e] at h1
  exact h1
 ·have:=h2 _ _ _ Ay.booth hc hs
  have e:BK W (N.setR i r')=(BK W N).set (i.toNat+1) (GR (W.rb i) r'):=by
   unfold BK
   rw [List.set_cons_succ,List.set_append_left _ _ hk]
   show _::(BP W (N.rides.set i.toNat r')++_)=_
   rw [S9 hi]
   rfl
  show Lse (CI (BK W _)) s0 σ'
  rw [e]
  exact this
theorem Ar.party (h:Ar W s0 σ N) {g:Int} (hg:g.toNat<N.parties.length):∃ s1,GG (W.pb g) (W.ws g.toNat) (N.pa g) s1 σ/\∀ p' σ2 σ',GG (W.pb g) (W.ws g.toNat) p' s1 σ2->Hp.Sub σ2 σ'->Ar W s0 σ' (N.setP g p'):=by
 have hl:(BP W N.rides).length=N.rides.length:=by simp [BP]
 have hk:(BP W N.rides).length+g.toNat<(BP W N.rides++Es W N.parties).length:=by simp [Es];omega
 obtain ⟨s1,h1,h2⟩:=PK (k:=(BP W N.rides).length+g.toNat+1) CX (by simp [BK,Es];omega) h
 refine ⟨s1,?_,fun p' σ2 σ' hc hs=>?_⟩
 ·have e:(BK W N)[(BP W N.rides).length+g.toNat+1]'(by simp [BK,Es];omega)=GG (W.pb g) (W.ws g.toNat) (N.pa g):=by
   simp only [BK,List.getElem_cons_succ]
   rw [List.getElem_append_right (by omega)]
   simp [Es,NW.pb,Ngt.pa]
  rw [e] at h1
  exact h1
 ·have:=h2 _ _ _ Ay.party hc hs
  have e:BK W (N.setP g p')=(BK W N).set ((BP W N.rides).length+g.toNat+1) (GG (W.pb g) (W.ws g.toNat) p'):=by
   unfold BK
   rw [List.set_cons_succ,List.set_append_right _ _ (by omega)]
   show _::(_++Es W (N.parties.set g.toNat p'))=_
   rw [Sn hg,Nat.add_sub_cancel_left]
   rfl
  show Lse (CI (BK W _)) s0 σ'
  rw [e]
  exact this
theorem Ar.nblk (h:Ar W s0 σ N):∃ v:SL,σ W.nb=some (.cells (Je W N v) 186 (0,0),true)/\RdS sV σ v.A v.n N.visits:=by
 obtain ⟨s1,⟨v,σ2,h1,h2⟩,_⟩:=h.core
 exact ⟨v,h2.sub _ _ h1.get,h2.rd⟩
theorem Ar.pblk (h:Ar W s0 σ N) {g:Int} (hg:g.toNat<N.parties.length):σ (W.pb g)=some (.cells (KP (W.ws g.toNat) (N.pa g)) 165 (0,0),true):=by
 obtain ⟨s1,h1,_⟩:=h.party hg
 exact Blk.get h1
theorem Ar.rblk (h:Ar W s0 σ N) {i:Int} (hi:i.toNat<N.rides.length):∃ o q:SL,σ (W.rb i)=some (.cells (FT (N.bo i) o q) 172 (0,0),true)/\RdS aM σ o.A o.n (N.bo i).on/\RdS sQ σ q.A q.n (N.bo i).queue:=by
 obtain ⟨s1,⟨o,q,σ3,⟨σ2,h1,h2⟩,h3⟩,_⟩:=h.booth hi
 exact ⟨o,q,h3.sub _ _ (h2.sub _ _ h1.get),h2.rd.sub h3.sub,h3.rd⟩
theorem Ar.stN (h:Ar W s0 σ N) {N':Ngt} {k:Nat} {v:Value} (hk:k<5) (e1:N'.rides=N.rides) (e2:N'.parties=N.parties) (e3:N'.visits=N.visits) (hc:∀ s,Je W N' s=(Je W N s).setIfInBounds k v):
  σ.wr ⟨W.nb,k,none⟩/\Ar W s0 (σ.put ⟨W.nb,k,none⟩ v) N':=by
 obtain ⟨s1,⟨s,σ2,h1,h2⟩,h3⟩:=h.core
 obtain ⟨w1,w2,w3⟩:=h1.st h2.sub hk v
 refine ⟨w1,h3 N' (σ.put ⟨W.nb,k,none⟩ v) _ e1 e2 ⟨s,σ2.put ⟨W.nb,k,none⟩ v,?_,?_⟩ (Hp.Sub.refl _)⟩
 ·rw [hc];exact w2
 ·rw [e3]
  exact h2.putb h1.get v
theorem Ar.stP (h:Ar W s0 σ N) {g:Int} (hg:g.toNat<N.parties.length) {k:Nat} {v:Value} {p':Pty} (hk:k<9) (hc:KP (W.ws g.toNat) p'=(KP (W.ws g.toNat) (N.pa g)).setIfInBounds k v):
  σ.wr ⟨W.pb g,k,none⟩/\Ar W s0 (σ.put ⟨W.pb g,k,none⟩ v) (N.setP g p'):=by
 obtain ⟨s1,h1,h3⟩:=h.party hg
 obtain ⟨w1,w2,w3⟩:=Blk.st h1 (Hp.Sub.refl _) (k:=k) hk v
 refine ⟨w1,h3 p' _ _ ?_ (Hp.Sub.refl _)⟩
 unfold GG
 rw [hc]
 exact w2
theorem Ar.stR (h:Ar W s0 σ N) {i:Int} (hi:i.toNat<N.rides.length) {k:Nat} {v:Value} {r':Bth} (hk:k<11) (e1:r'.on=(N.bo i).on) (e2:r'.queue=(N.bo i).queue) (hc:∀ o q,FT r' o q=(FT (N.bo i) o q).setIfInBounds k v):
  σ.wr ⟨W.rb i,k,none⟩/\Ar W s0 (σ.put ⟨W.rb i,k,none⟩ v) (N.setR i r'):=by
 obtain ⟨s1,⟨o,q,σ3,⟨σ2,h1,h2⟩,h3⟩,h4⟩:=h.booth hi
 obtain ⟨w1,w2,w3⟩:=h1.st (h2.sub.trans h3.sub) hk v
 refine ⟨w1,h4 r' (σ.put ⟨W.rb i,k,none⟩ v) _ ⟨o,q,σ3.put ⟨W.rb i,k,none⟩ v,⟨σ2.put ⟨W.rb i,k,none⟩ v,?_,?_⟩,?_⟩ (Hp.Sub.refl _)⟩
 ·rw [hc];exact w2
 ·rw [e1];exact h2.putb h1.get v
 ·rw [e2];exact h3.putb (h2.sub _ _ h1.get) v
theorem Ar.vis (h:Ar W s0 σ N):∃ (v:SL) (s1:Hp),σ W.nb=some (.cells (Je W N v) 186 (0,0),true)/\Ak 75 sV s1 v.A v.n v.c N.visits σ /\
  ∀ (vs:List Vis) (s:SL) (σ2:Hp),Ak 75 sV s1 s.A s.n s.c vs σ2->σ2.wr ⟨W.nb,4,none⟩/\Ar W s0 (σ2.put ⟨W.nb,4,none⟩ s.v) (N.setV vs):=by
 obtain ⟨s1,⟨v,σ2,h1,h2⟩,h3⟩:=h.core
 refine ⟨v,σ2,h2.sub _ _ h1.get,h2,fun vs s s4 h4=>?_⟩
 obtain ⟨w1,w2,w3⟩:=h1.st h4.sub (k:=4) (show 4<5 by omega) s.v
 exact ⟨w1,h3 (N.setV vs) _ _ rfl rfl ⟨s,_,w2,h4.putb h1.get s.v⟩ (Hp.Sub.refl _)⟩
theorem Ar.que (h:Ar W s0 σ N) {i:Int} (hi:i.toNat<N.rides.length):∃ (o q:SL) (s1:Hp),σ (W.rb i)=some (.cells (FT (N.bo i) o q) 172 (0,0),true)/\Ak 240 sQ s1 q.A q.n q.c (N.bo i).queue σ /\
  ∀ (qs:List (Int×Int)) (s:SL) (σ2:Hp),Ak 240 sQ s1 s.A s.n s.c qs σ2->σ2.wr ⟨W.rb i,8,none⟩/\Ar W s0 (σ2.put ⟨W.rb i,8,none⟩ s.v) (N.setR i { N.bo i with queue:=qs }):=by
 obtain ⟨s1,⟨o,q,σ3,⟨σ2,h1,h2⟩,h3⟩,h4⟩:=h.booth hi
 refine ⟨o,q,σ3,h3.sub _ _ (h2.sub _ _ h1.get),h3,fun qs s s5 h5=>?_⟩
 obtain ⟨w1,w2,w3⟩:=h1.st (h2.sub.trans h5.sub) (k:=8) (show 8<11 by omega) s.v
 exact ⟨w1,h4 { N.bo i with queue:=qs } _ _ ⟨o,s,_,⟨_,w2,h2.putb h1.get s.v⟩,h5.putb (h2.sub _ _ h1.get) s.v⟩ (Hp.Sub.refl _)⟩
theorem Ar.ons (h:Ar W s0 σ N) {i:Int} (hi:i.toNat<N.rides.length):∃ (o q:SL) (s1:Hp),σ (W.rb i)=some (.cells (FT (N.bo i) o q) 172 (0,0),true)/\Ak 3 aM s1 o.A o.n o.c (N.bo i).on σ /\
  ∀ (xs:List Int) (s:SL) (σ2:Hp),Ak 3 aM s1 s.A s.n s.c xs σ2->σ2.wr ⟨W.rb i,5,none⟩/\Ar W s0 (σ2.put ⟨W.rb i,5,none⟩ s.v) (N.setR i { N.bo i with on:=xs }):=by
 obtain ⟨s1,⟨o,q,σ3,⟨σ2,h1,h2⟩,h3⟩,h4⟩:=h.booth hi
 obtain ⟨s3',h2',h3'⟩:=h2.swap h3
 refine ⟨o,q,s3',h3.sub _ _ (h2.sub _ _ h1.get),h3',fun xs s s5 h5=>?_⟩
 obtain ⟨s6,h6,h7⟩:=h2'.swap h5
 obtain ⟨w1,w2,w3⟩:=h1.st (h6.sub.trans h7.sub) (k:=5) (show 5<11 by omega) s.v
 exact ⟨w1,h4 { N.bo i with on:=xs } _ _ ⟨s,q,_,⟨_,w2,h6.putb h1.get s.v⟩,h7.putb (h6.sub _ _ h1.get) s.v⟩ (Hp.Sub.refl _)⟩
theorem Ar.outQ (h:Ar W s0 σ N) {i:Int} (hi:i.toNat<N.rides.length):∃ (o q:SL) (s1:Hp),σ (W.rb i)=some (.cells (FT (N.bo i) o q) 172 (0,0),true)/\Ak 240 sQ s0 q.A q.n q.c (N.bo i).queue s1/\σ.wr ⟨W.rb i,8,none⟩ /\
  Ar W s1 (σ.put ⟨W.rb i,8,none⟩ (aN none 0 0)) (N.setR i { N.bo i with queue:=[] }):=by
 obtain ⟨o,q,s1,hb,hq,hk⟩:=h.que hi
 obtain ⟨_,h1⟩:=hk [] ⟨none,0,0⟩ s1 (Ak.nil ..)
 have hw:σ.wr ⟨W.rb i,8,none⟩:=KF hb (show 8<11 by omega)
 have hb1:∃ x,s1 (W.rb i)=some x:=by
  obtain ⟨w,_⟩:=hk [] ⟨none,0,0⟩ s1 (Ak.nil ..)
  obtain ⟨c,e,hx,_⟩:=w
  exact ⟨_,hx⟩
 obtain ⟨x,hx⟩:=hb1
 have h2:=hq.putb hx (k:=8) (Value.slice none 0 0)
 obtain ⟨σ3,h3,h4⟩:=Lse.own_down Cg h1 h2
 exact ⟨o,q,σ3,hb,h3,hw,h4⟩
end
def Ngt.arrive (N:Ngt) (g:Int):Ngt:=
 (N.setP g { N.pa g with comes:=-1 }).setR (gt (N.pa g).g.wants (N.pa g).wish) { N.bo (gt (N.pa g).g.wants (N.pa g).wish) with queue:=(N.bo (gt (N.pa g).g.wants (N.pa g).wish)).queue++[(g,N.tick)] }
def Ngt.next (N:Ngt) (g:Int):Ngt:=
 if (N.pa g).wish=(N.pa g).g.wants.length then N.setP g { N.pa g with home:=N.tick }
 else if N.walk=0 then N.arrive g
 else N.setP g { N.pa g with comes:=N.tick+N.walk }
def Ngt.done (N:Ngt) (s:Int×Int) (on:Bool):Ngt:=
 (N.setV (N.visits++[(s.1,(N.pa s.1).wish,gt (N.pa s.1).g.wants (N.pa s.1).wish,on,s.2,N.tick)])).setP s.1 { N.pa s.1 with wish:=(N.pa s.1).wish+1 }
def Ngt.stat (N:Ngt) (nr:Nat) (G:List Grp):Prop:=N.rides.length=nr/\N.parties.map Pty.g=G
theorem Ngt.stat.len {N:Ngt} {nr:Nat} {G:List Grp} (h:N.stat nr G):N.parties.length=G.length:=by rw [← h.2,List.length_map]
theorem Ngt.stat.setP {N:Ngt} {nr:Nat} {G:List Grp} (h:N.stat nr G) {g:Int} {p:Pty} (hp:p.g=(N.pa g).g):(N.setP g p).stat nr G:=by
 refine ⟨h.1,?_⟩
 rw [← h.2]
 show (N.parties.set g.toNat p).map Pty.g=_
 apply List.ext_getElem
 ·simp
 ·intro i h1 h2
  simp only [List.getElem_map,List.getElem_set]
  split
  ·rename_i e
   subst e
   rw [hp]
   simp only [List.length_map] at h2
   simp [Ngt.pa,List.getD,h2]
  ·rfl
theorem Ngt.stat.setR {N:Ngt} {nr:Nat} {G:List Grp} (h:N.stat nr G) {i:Int} {r:Bth}:(N.setR i r).stat nr G:=by
 refine ⟨?_,h.2⟩
 show (N.rides.set i.toNat r).length=nr
 rw [List.length_set]
 exact h.1
theorem Ngt.pa_setP {N:Ngt} {g k:Int} {p:Pty} (hg:g.toNat<N.parties.length):(N.setP g p).pa k=if k.toNat=g.toNat then p else N.pa k:=by
 unfold Ngt.pa Ngt.setP
 simp only [List.getD,List.getElem?_set]
 by_cases e:k.toNat=g.toNat
 ·rw [if_pos e,if_pos e.symm];simp [hg]
 ·rw [if_neg e,if_neg (fun h=>e h.symm)]
theorem Ngt.bo_setR {N:Ngt} {i k:Int} {r:Bth} (hi:i.toNat<N.rides.length):(N.setR i r).bo k=if k.toNat=i.toNat then r else N.bo k:=by
 unfold Ngt.bo Ngt.setR
 simp only [List.getD,List.getElem?_set]
 by_cases e:k.toNat=i.toNat
 ·rw [if_pos e,if_pos e.symm];simp [hi]
 ·rw [if_neg e,if_neg (fun h=>e h.symm)]
theorem T4 {xs:List Nat} {i:Nat} (h:i<xs.length):(xs.map pto).getD i none=pto (xs.getD i 0):=by
 simp [List.getD,h]
section
variable {W:NW} {s0 σ:Hp} {N:Ngt} {nr:Nat} {G:List Grp}
theorem NSt.want (hS:NSt W σ nr G) (hN:N.stat nr G) {g:Int} (hg:g.toNat<N.parties.length):RdS aM σ (W.ws g.toNat).A (W.ws g.toNat).n (N.pa g).g.wants:=by
 have hl:g.toNat<G.length:=by rw [← hN.len];exact hg
 have:=hS.w g.toNat hl
 have e:(N.pa g).g=G[g.toNat]:=by
  have e2:G[g.toNat]=(N.parties.map Pty.g)[g.toNat]'(by simpa using hg):=by
   congr 1
   exact hN.2.symm
  rw [e2,List.getElem_map]
  simp [Ngt.pa,List.getD,hg]
 rw [e]
 exact this
theorem NSt.pix (hS:NSt W σ nr G) (hN:N.stat nr G) {g:Int} {K:aA->Prop} (h0:0<=g) (hg:g.toNat<N.parties.length) (hk:K (some ⟨W.pb g,0,none⟩)):ix W.p.A W.p.n g 1 fun b a=>ldP σ b a K:=by
 have hl:g.toNat<W.ps.length:=by rw [hS.lp,← hN.len];exact hg
 exact Abx (xs:=(W.ps.map pto:List (aA))) hS.p h0 (by simpa using hl) (by rw [T4 hl];exact hk)
theorem NSt.rix (hS:NSt W σ nr G) (hN:N.stat nr G) {i:Int} {K:aA->Prop} (h0:0<=i) (hi:i.toNat<N.rides.length) (hk:K (some ⟨W.rb i,0,none⟩)):ix W.r.A W.r.n i 1 fun b a=>ldP σ b a K:=by
 have hl:i.toNat<W.rs.length:=by rw [hS.lr,← hN.1];exact hi
 exact Abx (xs:=(W.rs.map pto:List (aA))) hS.r h0 (by simpa using hl) (by rw [T4 hl];exact hk)
theorem T7 (hS:NSt W s0 nr G) (hN:N.stat nr G) (h:Ar W s0 σ N) {g:Int} (g0:0<=g) (hg:g.toNat<N.parties.length)
  (hw:0<=(N.pa g).wish/\(N.pa g).wish<(N.pa g).g.wants.length) (hr:0<=gt (N.pa g).g.wants (N.pa g).wish/\(gt (N.pa g).g.wants (N.pa g).wish).toNat<N.rides.length)
  (hq:(N.bo (gt (N.pa g).g.wants (N.pa g).wish)).queue.length<=4000000000):
  Af prog 223 #[.pointer (some ⟨W.nb,0,none⟩),aD g] σ fun v σ'=>v=.tuple #[]/\Ar W s0 σ' (N.arrive g):=by
 refine IC _ _ _ _ ?_
 unfold CS
 have hS1:=hS.sub h.sub
 obtain ⟨v,hb,_⟩:=h.nblk
 refine AG (Bu hb rfl (hS1.pix hN g0 hg (AG ?_)))
 obtain ⟨w1,h1⟩:=h.stP hg (k:=7) (v:=aD (-1)) (p':={ N.pa g with comes:=-1 }) (by omega) rfl
 refine ⟨w1,?_⟩
 show dr _ _
 generalize σ.put ⟨W.pb g,0+7,none⟩ (aD (-1))=s9 at *
 have hN1:=hN.setP (g:=g) (p:={ N.pa g with comes:=-1 }) rfl
 have hS2:=hS.sub h1.sub
 obtain ⟨v2,hb2,_⟩:=h1.nblk
 have hg1:g.toNat<(N.setP g { N.pa g with comes:=-1 }).parties.length:=by show _<(List.set _ _ _).length;rw [List.length_set];exact hg
 have hp2:=h1.pblk hg1
 have e2:(N.setP g { N.pa g with comes:=-1 }).pa g={ N.pa g with comes:=-1 }:=by rw [Ngt.pa_setP hg,if_pos rfl]
 rw [e2] at hp2
 have hwt:RdS aM s9 (W.ws g.toNat).A (W.ws g.toNat).n (N.pa g).g.wants:=by
  have:=hS2.want hN1 hg1
  rw [e2] at this
  exact this
 refine AG (Bu hb2 rfl (AG (Bu hp2 rfl (AG (Bh hp2 rfl (EJ hwt hw.1 hw.2 (hS2.rix hN1 hr.1 hr.2 (AG ?_))))))))
 obtain ⟨o,q,s1,hrb,hq1,hk⟩:=h1.que (i:=gt (N.pa g).g.wants (N.pa g).wish) hr.2
 refine Bu hrb rfl (AG (Bh hb2 rfl (CH hq1 (AY ?_ (AG ?_)))))
 ·show (N.bo _).queue.length+1<=_
  omega
 ·intro A n c σ2 ho
  obtain ⟨w3,h3⟩:=hk _ ⟨A,n,c⟩ σ2 ho
  exact ⟨w3,Al ⟨rfl,h3⟩⟩
theorem Aaz (hS:NSt W s0 nr G) (hN:N.stat nr G) (h:Ar W s0 σ N) {g:Int} (g0:0<=g) (hg:g.toNat<N.parties.length)
  (hw:0<=(N.pa g).wish/\(N.pa g).wish<=(N.pa g).g.wants.length) (hr:(N.pa g).wish<(N.pa g).g.wants.length->0<=gt (N.pa g).g.wants (N.pa g).wish/\(gt (N.pa g).g.wants (N.pa g).wish).toNat<N.rides.length)
  (hq:∀ i,(N.bo i).queue.length<=4000000000) (ht:0<=N.tick/\N.tick<=5000) (hwk:0<=N.walk/\N.walk<=100):
  Af prog 222 #[.pointer (some ⟨W.nb,0,none⟩),aD g] σ fun v σ'=>v=.tuple #[]/\Ar W s0 σ' (N.next g):=by
 refine JQ _ _ _ _ ?_
 unfold DM
 have hS1:=hS.sub h.sub
 obtain ⟨v,hb,_⟩:=h.nblk
 have hp:=h.pblk hg
 have hwn:=(hS1.want hN hg).lenI
 refine AG (Bu hb rfl (hS1.pix hN g0 hg (AG (Bh hp rfl (AG (Bu hp rfl (AF (fun e=>?_) (fun e=>?_))))))))
 ·refine AG (Bh hb rfl (AG ?_))
  obtain ⟨w1,h1⟩:=h.stP hg (k:=8) (v:=aD N.tick) (p':={ N.pa g with home:=N.tick }) (by omega) rfl
  refine ⟨w1,Al ⟨rfl,?_⟩⟩
  rw [Ngt.next,if_pos (by rw [e,hwn])]
  exact h1
 ·have e':(N.pa g).wish≠(N.pa g).g.wants.length:=by rw [hwn] at e;exact e
  refine AG (Bh hb rfl (AF (fun e0=>?_) (fun e0=>?_)))
  ·refine AW (aV 223) (T7 hS hN h g0 hg ⟨hw.1,by omega⟩ (hr (by omega)) (hq _)) ?_
   rintro v σ' ⟨rfl,h1⟩
   refine Al ⟨rfl,?_⟩
   rw [Ngt.next,if_neg e',if_pos e0]
   exact h1
  ·refine AG (Bh hb rfl (AG (Bh hb rfl (AS (by omega) (AG ?_)))))
   obtain ⟨w1,h1⟩:=h.stP hg (k:=7) (v:=aD (N.tick+N.walk)) (p':={ N.pa g with comes:=N.tick+N.walk }) (by omega) rfl
   refine ⟨w1,Al ⟨rfl,?_⟩⟩
   rw [Ngt.next,if_neg e',if_neg e0]
   exact h1
theorem Aac (hS:NSt W s0 nr G) (hN:N.stat nr G) (h:Ar W s0 σ N) {g came:Int} {on:Bool} (g0:0<=g) (hg:g.toNat<N.parties.length)
  (hw:0<=(N.pa g).wish/\(N.pa g).wish<(N.pa g).g.wants.length) (hl:(N.pa g).g.wants.length<=1000) (hv:N.visits.length<=4000000000):
  Af prog 228 #[.pointer (some ⟨W.nb,0,none⟩),.agg #[aD g,aD came],.bool on] σ fun v σ'=>v=.tuple #[]/\Ar W s0 σ' (N.done (g,came) on):=by
 apply JH
 unfold DQ
 have hS1:=hS.sub h.sub
 obtain ⟨v,s1,hb,ho,hk⟩:=h.vis
 have hp:=h.pblk hg
 refine AG (Bu hb rfl (hS1.pix hN g0 hg (AG (Bu hb rfl (AG (Bh hp rfl (AG (Bu hp rfl (AG (Bh hp rfl (EJ (hS1.want hN hg) hw.1 hw.2 (AG (Bh hb rfl (CH ho (AY ?_ (AG ?_))))))))))))))))
 ·show N.visits.length+1<=_
  omega
 ·intro A n c σ2 ho2
  obtain ⟨w3,h3⟩:=hk _ ⟨A,n,c⟩ σ2 ho2
  refine ⟨w3,?_⟩
  have hp3:=h3.pblk (g:=g) hg
  refine AG (Bh hp3 rfl (AS ?_ (AG ?_)))
  ·show _<=(N.pa g).wish+1/\(N.pa g).wish+1<=_
   omega
  ·obtain ⟨w4,h4⟩:=h3.stP (g:=g) hg (k:=5) (v:=aD ((N.pa g).wish+1)) (p':={ N.pa g with wish:=(N.pa g).wish+1 }) (by omega) rfl
   exact ⟨w4,Al ⟨rfl,h4⟩⟩
end
structure Ngt.Arr (N:Ngt) (g:Int):Prop where
 g0:0<=g
 hg:g.toNat<N.parties.length
 w0:0<=(N.pa g).wish
 w1:(N.pa g).wish<(N.pa g).g.wants.length
 r0:0<=gt (N.pa g).g.wants (N.pa g).wish
 r1:(gt (N.pa g).g.wants (N.pa g).wish).toNat<N.rides.length
 hq:∀ i,(N.bo i).queue.length<=4000000000
structure Ngt.Nxt (N:Ngt) (g:Int):Prop where
 g0:0<=g
 hg:g.toNat<N.parties.length
 w0:0<=(N.pa g).wish
 w1:(N.pa g).wish<=(N.pa g).g.wants.length
 r:(N.pa g).wish<(N.pa g).g.wants.length->0<=gt (N.pa g).g.wants (N.pa g).wish/\(gt (N.pa g).g.wants (N.pa g).wish).toNat<N.rides.length
 hq:∀ i,(N.bo i).queue.length<=4000000000
 ht:0<=N.tick/\N.tick<=5000
 hk:0<=N.walk/\N.walk<=100
structure Ngt.Dne (N:Ngt) (g:Int):Prop where
 g0:0<=g
 hg:g.toNat<N.parties.length
 w0:0<=(N.pa g).wish
 w1:(N.pa g).wish<(N.pa g).g.wants.length
 hl:(N.pa g).g.wants.length<=1000
 hv:N.visits.length<=4000000000
theorem Ngt.arrive_stat {N:Ngt} {nr:Nat} {G:List Grp} (h:N.stat nr G) (g:Int):(N.arrive g).stat nr G:=by
 unfold Ngt.arrive
 exact (h.setP (p:={ N.pa g with comes:=-1 }) rfl).setR
theorem Ngt.next_stat {N:Ngt} {nr:Nat} {G:List Grp} (h:N.stat nr G) (g:Int):(N.next g).stat nr G:=by
 unfold Ngt.next
 split
 ·exact h.setP rfl
 ·split
  ·exact N.arrive_stat h g
  ·exact h.setP rfl
theorem Ngt.done_stat {N:Ngt} {nr:Nat} {G:List Grp} (h:N.stat nr G) (s:Int×Int) (on:Bool):(N.done s on).stat nr G:=by
 unfold Ngt.done
 exact Ngt.stat.setP (N:=N.setV _) h rfl
theorem BG {α:Type} {f:Ngt->α->Ngt} {nr:Nat} {G:List Grp} (hf:∀ N a,Ngt.stat N nr G->(f N a).stat nr G):∀ (xs:List α) (N:Ngt),N.stat nr G->(xs.foldl f N).stat nr G
 | [],_,h=>h
 | x::xs,N,h=>BG hf xs _ (hf N x h)
def Bth.ends (t:Int) (r:Bth):Bool:=decide (0<r.on.length)&&decide (r.begun+r.b.cycle=t)
def Bth.end1 (t:Int) (r:Bth):Bth:=if r.ends t=true then { r with on:=[],ended:=t } else r
def Bth.off (t:Int) (r:Bth):List Int:=if r.ends t=true then r.on else []
def H3 (xs:List Int):List Int:=M9 (fun x y=>decide (x<=y)) xs
def Ngt.endK (N:Ngt) (k:Nat):Ngt:={ N with rides:=(N.rides.take k).map (Bth.end1 N.tick)++N.rides.drop k }
def Ngt.offK (N:Ngt) (k:Nat):List Int:=(N.rides.take k).flatMap (Bth.off N.tick)
def Ngt.off (N:Ngt):List Int:=H3 (N.offK N.rides.length)
def Ngt.end_ (N:Ngt):Ngt:=N.off.foldl Ngt.next (N.endK N.rides.length)
theorem Ngt.endK_zero (N:Ngt):N.endK 0=N:=by simp [Ngt.endK]
theorem Ngt.endK_len (N:Ngt) (k:Nat):(N.endK k).rides.length=N.rides.length:=by simp [Ngt.endK];omega
theorem Ngt.endK_bo (N:Ngt) (k:Nat):(N.endK k).bo k=N.bo k:=by
 by_cases h:k<N.rides.length
 ·simp [Ngt.endK,Ngt.bo,List.getD,h,Nat.le_of_lt h]
 ·have h':N.rides.length<=k:=by omega
  simp [Ngt.endK,Ngt.bo,List.getD,h']
theorem Ngt.endK_succ (N:Ngt) {k:Nat} (h:k<N.rides.length):N.endK (k+1)=(N.endK k).setR k ((N.bo k).end1 N.tick):=by
 unfold Ngt.endK Ngt.setR
 congr 1
 simp only [Int.toNat_natCast]
 have e:(N.bo k)=N.rides[k]:=by simp [Ngt.bo,List.getD,h]
 rw [e,List.take_succ_eq_append_getElem h,List.map_append,List.append_assoc,List.set_append_right _ _ (by simp;omega)]
 congr 1
 have:k-(List.map (Bth.end1 N.tick) (List.take k N.rides)).length=0:=by simp;omega
 rw [this,List.drop_eq_getElem_cons h]
 rfl
theorem Ngt.offK_succ (N:Ngt) {k:Nat} (h:k<N.rides.length):N.offK (k+1)=N.offK k++(N.bo k).off N.tick:=by
 have e:(N.bo k)=N.rides[k]:=by simp [Ngt.bo,List.getD,h]
 rw [e]
 unfold Ngt.offK
 rw [List.take_succ_eq_append_getElem h,List.flatMap_append]
 simp
theorem Ngt.offK_len (N:Ngt) (ho:∀ i,(N.bo i).on.length<=1000000):∀ k:Nat,k<=N.rides.length->(N.offK k).length<=k*1000000
 | 0,_=>by simp [Ngt.offK]
 | k+1,h=>by
  have:=N.offK_len ho k (by omega)
  rw [N.offK_succ (by omega),List.length_append]
  have h2:((N.bo k).off N.tick).length<=1000000:=by
   unfold Bth.off
   split
   ·exact ho k
   ·simp
  omega
theorem Ngt.setR_setR (N:Ngt) (i:Int) (a b:Bth):(N.setR i a).setR i b=N.setR i b:=by
 unfold Ngt.setR
 simp
theorem Ngt.setR_self (N:Ngt) (i:Int):N.setR i (N.bo i)=N:=by
 unfold Ngt.setR Ngt.bo
 by_cases h:i.toNat<N.rides.length
 ·simp [List.getD,h]
 ·have h':N.rides.length<=i.toNat:=by omega
  rw [List.set_eq_of_length_le h']
def SortI:Prop:=∀ (s0 σ:Hp) (A:aA) (n c:Nat) (xs:List Int),Ak 3 aM s0 A n c xs σ->xs.length<=4294967296 ->
 Af prog 49 #[aN A n c] σ fun v σ'=>v=.tuple #[]/\Ak 3 aM s0 A n c (H3 xs) σ'
section
variable {W:NW} {s0 σ:Hp} {N:Ngt} {nr:Nat} {G:List Grp}
theorem Sg (hS:NSt W s0 nr G) (hN:N.stat nr G) (h:Ar W s0 σ N) {g:Int} (hg:N.Nxt g) {K:aB} (hk:∀ v σ',Ar W s0 σ' (N.next g)->K v σ'):aC 222 #[.pointer (some ⟨W.nb,0,none⟩),aD g] σ K:=
 AW (aV 222) (Aaz hS hN h hg.g0 hg.hg ⟨hg.w0,hg.w1⟩ hg.r hg.hq hg.ht hg.hk) fun v σ' h=>hk v σ' h.2
theorem Yd (hS:NSt W s0 nr G) (hN:N.stat nr G) (h:Ar W s0 σ N) {g:Int} (hg:N.Arr g) {K:aB} (hk:∀ v σ',Ar W s0 σ' (N.arrive g)->K v σ'):aC 223 #[.pointer (some ⟨W.nb,0,none⟩),aD g] σ K:=
 AW (aV 223) (T7 hS hN h hg.g0 hg.hg ⟨hg.w0,hg.w1⟩ ⟨hg.r0,hg.r1⟩ (hg.hq _)) fun v σ' h=>hk v σ' h.2
theorem YX (hS:NSt W s0 nr G) (hN:N.stat nr G) (h:Ar W s0 σ N) {g came:Int} {on:Bool} (hg:N.Dne g) {K:aB} (hk:∀ v σ',Ar W s0 σ' (N.done (g,came) on)->K v σ'):aC 228 #[.pointer (some ⟨W.nb,0,none⟩),.agg #[aD g,aD came],.bool on] σ K:=
 AW (aV 228) (Aac hS hN h hg.g0 hg.hg ⟨hg.w0,hg.w1⟩ hg.hl hg.hv) fun v σ' h=>hk v σ' h.2
theorem Ar.offO (h:Ar W s0 σ N) {i:Int} (hi:i.toNat<N.rides.length):σ.wr ⟨W.rb i,5,none⟩/\Ar W s0 (σ.put ⟨W.rb i,5,none⟩ (aN none 0 0)) (N.setR i { N.bo i with on:=[] }):=by
 obtain ⟨o,q,s1,hb,ho,hk⟩:=h.ons hi
 obtain ⟨w,h1⟩:=hk [] ⟨none,0,0⟩ s1 (Ak.nil ..)
 have hb1:∃ x,s1 (W.rb i)=some x:=by
  obtain ⟨c,e,hx,_⟩:=w
  exact ⟨_,hx⟩
 obtain ⟨x,hx⟩:=hb1
 exact ⟨KF hb (show 5<11 by omega),h1.up (PL ho.sub hx _)⟩
theorem Abs (hso:SortI) (hS:NSt W s0 nr G) (hN:N.stat nr G) (h:Ar W s0 σ N) (hr:nr<=1000) (hon:∀ i,(N.bo i).on.length<=1000000)
  (hb:∀ i,-1000000<=(N.bo i).begun+(N.bo i).b.cycle/\(N.bo i).begun+(N.bo i).b.cycle<=1000000)
  (hok:∀ k,(hk:k<N.off.length)->((N.off.take k).foldl Ngt.next (N.endK N.rides.length)).Nxt N.off[k]):
  Af prog 166 #[.pointer (some ⟨W.nb,0,none⟩)] σ fun v σ'=>v=.tuple #[]/\Ar W s0 σ' N.end_:=by
 refine KJ _ _ _ ?_
 unfold ED
 have hnr:N.rides.length=nr:=hN.1
 refine Ah fun J3 h3=>?_
 have k3:∀ A l c sa σ2,Ar W s0 sa (N.endK N.rides.length)->Ak 3 aM sa A l c (N.offK N.rides.length) σ2->J3 A l c σ2:=by
  intro A4 l4 c4 sa σ2 ha ho
  rw [h3]
  intro _
  have hol:=N.offK_len hon N.rides.length (by omega)
  refine AW (aV 49) (hso _ _ _ _ _ _ ho (by omega)) ?_
  rintro _ s6 ⟨rfl,ho6⟩
  obtain ⟨σ',ho',h'⟩:=Lse.own_down Cg ha ho6
  have hS':=hS.sub ho'.sub
  have hl:=ho'.RdI.lenI
  have hoff:N.off.length=(N.offK N.rides.length).length:=IW ..
  have hlow:Ar W σ' s6 (N.endK N.rides.length):=h'
  have hNe:(N.endK N.rides.length).stat nr G:=⟨by rw [N.endK_len];exact hnr,hN.2⟩
  change Ak 3 aM s0 A4 l4 c4 N.off σ' at ho'
  change l4=N.off.length at hl
  refine ⟨fun w i τ=>∃ k:Nat,w=N.off.length-k/\i=k/\k<=N.off.length/\Ar W σ' τ ((N.off.take k).foldl Ngt.next (N.endK N.rides.length)),⟨_,0,rfl,rfl,by omega,hlow⟩,?_⟩
  rintro w i τ ⟨k,rfl,rfl,hk,hτ⟩ _
  refine AF (fun hlt=>?_) (fun hlt=>?_)
  ·have hkl:k<N.off.length:=by omega
   have hrd:RdS aM τ A4 l4 N.off:=RdS.sub ho'.rd hτ.sub
   refine EJ hrd (by omega) (by omega) ?_
   rw [B3 hkl]
   refine Sg hS' (BG (fun N g h=>N.next_stat h g) _ _ hNe) hτ (hok k hkl) fun v s7 h7=>?_
   refine AS (by omega) (Be _ (by omega) ⟨k+1,rfl,by omega,by omega,?_⟩)
   rw [Lv hkl]
   exact h7
  ·have:k=N.off.length:=by omega
   subst this
   rw [List.take_length] at hτ
   exact Al ⟨rfl,hτ.low ho'.sub⟩
 obtain ⟨v,hnb,_⟩:=h.nblk
 refine AG (Bu hnb rfl ?_)
 have hrl:W.r.n=N.rides.length:=by rw [hS.r.1,← hS.lr.trans hnr.symm];exact List.length_map ..
 refine ⟨fun w A l c i τ=>∃ (k:Nat) (sa:Hp),w=N.rides.length-k/\i=k/\k<=N.rides.length/\Ar W s0 sa (N.endK k)/\Ak 3 aM sa A l c (N.offK k) τ,⟨_,0,σ,rfl,rfl,by omega,by rw [N.endK_zero];exact h,Ak.nil ..⟩,?_⟩
 rintro w A l c i τ ⟨k,sa,rfl,rfl,hk,ha,ho⟩ _
 refine AF (fun hlt=>?_) (fun hlt=>?_)
 ·have hkl:k<N.rides.length:=by omega
  have hkN:(N.endK k).stat nr G:=⟨by rw [N.endK_len];exact hnr,hN.2⟩
  have hki:(k:Int).toNat<(N.endK k).rides.length:=by rw [N.endK_len];exact hkl
  have hS1:=(hS.sub ha.sub).sub ho.sub
  have hlen:=N.offK_len hon k (by omega)
  obtain ⟨o,q,hrb,hro,_⟩:=ha.rblk hki
  obtain ⟨v,hnb,_⟩:=ha.nblk
  have hol:=hro.lenI
  rw [N.endK_bo] at hrb hro hol
  have honk:=hon k
  have hbk:=hb k
  refine Ah fun J32 h32=>?_
  have k32:∀ A l c σb t',Ar W s0 σb (N.endK (k+1))->Ak 3 aM σb A l c (N.offK (k+1)) t'->J32 A l c t':=by
   intro A l c σb t' hb' ho'
   rw [h32]
   intro _
   exact AS (by omega) (Be _ (by omega) ⟨k+1,σb,rfl,by omega,by omega,hb',ho'⟩)
  have e1:=N.endK_succ hkl
  have e2:=N.offK_succ hkl
  refine hS1.rix hkN (by omega) hki (Ah fun J42 h42=>?_)
  have k42:∀ t,t=(N.bo k).ends N.tick->J42 t τ:=by
   rintro t rfl
   rw [h42]
   intro _
   refine C4 (fun he=>?_) (fun he=>?_)
   ·rw [Bth.end1,if_pos he] at e1
    rw [Bth.off,if_pos he] at e2
    refine AG (Bu (ho.sub _ _ hrb) rfl (CH ho ⟨(N.bo k).on,hro,AY (by show (N.offK k).length+_<=_;omega) (AG (Bh hnb rfl (AG ?_)))⟩))
    obtain ⟨w1,h1⟩:=ha.offO hki
    refine ⟨w1,AG ?_⟩
    have hki1:(k:Int).toNat<((N.endK k).setR k { (N.endK k).bo k with on:=[] }).rides.length:=by show _<(List.set _ _ _).length;rw [List.length_set];exact hki
    obtain ⟨w2,h2⟩:=h1.stR hki1 (k:=7) (v:=aD N.tick) (r':={ N.bo k with on:=[],ended:=N.tick }) (by omega) (by rw [Ngt.bo_setR hki,if_pos rfl]) (by rw [Ngt.bo_setR hki,if_pos rfl,N.endK_bo]) (fun o q=>by rw [Ngt.bo_setR hki,if_pos rfl,N.endK_bo];rfl)
    refine ⟨w2,?_⟩
    intro A59 l59 c59 s60 o60
    rw [Ngt.setR_setR,← e1] at h2
    refine k32 _ _ _ _ _ h2 ?_
    rw [e2]
    exact o60
   ·rw [Bth.end1,if_neg (by rw [he];simp),← N.endK_bo k,Ngt.setR_self] at e1
    rw [Bth.off,if_neg (by rw [he];simp),List.append_nil] at e2
    refine k32 _ _ _ _ _ (by rw [e1];exact ha) (by rw [e2];exact ho)
  have hrb1:=ho.sub _ _ hrb
  have hnb1:=ho.sub _ _ hnb
  refine AG (Bu hrb1 rfl (AF (fun h0=>?_) (fun h0=>k42 _ ?_)))
  ·refine AG (Bh hrb1 rfl (AG (Bh hrb1 rfl (AS (by omega) (AG (Bh hnb1 rfl (k42 _ ?_)))))))
   unfold Bth.ends
   rw [decide_eq_true (show 0<(N.bo k).on.length by omega),Bool.true_and]
   rfl
  ·unfold Bth.ends
   rw [decide_eq_false (show ¬ 0<(N.bo k).on.length by omega),Bool.false_and]
 ·have:k=N.rides.length:=by omega
  subst this
  exact k3 _ _ _ _ _ ha ho
def Ngt.comeA (N:Ngt) (i:Nat):Ngt:=if (N.pa i).g.came=N.tick then N.next i else N
def Ngt.comeB (N:Ngt) (i:Nat):Ngt:=if (N.pa i).comes=N.tick then N.arrive i else N
def Ngt.come (N:Ngt):Ngt:=(List.range N.parties.length).foldl Ngt.comeB ((List.range N.parties.length).foldl Ngt.comeA N)
theorem Ngt.comeA_stat {N:Ngt} {nr:Nat} {G:List Grp} (h:N.stat nr G) (g:Nat):(N.comeA g).stat nr G:=by
 unfold Ngt.comeA
 split
 ·exact N.next_stat h _
 ·exact h
theorem Ngt.comeB_stat {N:Ngt} {nr:Nat} {G:List Grp} (h:N.stat nr G) (g:Nat):(N.comeB g).stat nr G:=by
 unfold Ngt.comeB
 split
 ·exact N.arrive_stat h _
 ·exact h
theorem DB {β:Type} {f:β->Nat->β} {b:β} {k:Nat}:(List.range (k+1)).foldl f b=f ((List.range k).foldl f b) k:=by
 rw [List.range_succ,List.foldl_append]
 rfl
theorem AaB (hS:NSt W s0 nr G) (hN:N.stat nr G) (h:Ar W s0 σ N) (hp:N.parties.length<=1000)
  (hA:∀ k,k<N.parties.length->(((List.range k).foldl Ngt.comeA N).pa k).g.came=((List.range k).foldl Ngt.comeA N).tick->((List.range k).foldl Ngt.comeA N).Nxt k)
  (hB:∀ k,k<N.parties.length->(((List.range k).foldl Ngt.comeB ((List.range N.parties.length).foldl Ngt.comeA N)).pa k).comes=((List.range k).foldl Ngt.comeB ((List.range N.parties.length).foldl Ngt.comeA N)).tick->((List.range k).foldl Ngt.comeB ((List.range N.parties.length).foldl Ngt.comeA N)).Arr k):
  Af prog 167 #[.pointer (some ⟨W.nb,0,none⟩)] σ fun v σ'=>v=.tuple #[]/\Ar W s0 σ' N.come:=by
 refine JX _ _ _ ?_
 unfold DW
 have hpl:W.p.n=N.parties.length:=by rw [hS.p.1,← hS.lp.trans hN.len.symm];exact List.length_map ..
 refine Ah fun J3 h3=>?_
 have hsA:∀ k,((List.range k).foldl Ngt.comeA N).stat nr G:=fun k=>BG (fun N g h=>N.comeA_stat h g) _ _ hN
 have k3:∀ σ2,Ar W s0 σ2 ((List.range N.parties.length).foldl Ngt.comeA N)->J3 σ2:=by
  intro σ2 h2
  rw [h3]
  intro _
  obtain ⟨v,hnb,_⟩:=h2.nblk
  refine AG (Bu hnb rfl ?_)
  have hN2:=hsA N.parties.length
  have hsB:∀ k,((List.range k).foldl Ngt.comeB ((List.range N.parties.length).foldl Ngt.comeA N)).stat nr G:=fun k=>BG (fun N g h=>N.comeB_stat h g) _ _ hN2
  generalize e2:(List.range N.parties.length).foldl Ngt.comeA N=N2 at *
  refine ⟨fun w i τ=>∃ k:Nat,w=N.parties.length-k/\i=k/\k<=N.parties.length/\Ar W s0 τ ((List.range k).foldl Ngt.comeB N2),⟨_,0,rfl,rfl,by omega,h2⟩,?_⟩
  rintro w i τ ⟨k,rfl,rfl,hk,hτ⟩ _
  refine AF (fun hlt=>?_) (fun hlt=>?_)
  ·have hkl:k<N.parties.length:=by omega
   have hS1:=hS.sub hτ.sub
   have hNk:=hsB k
   have hBk:=hB k hkl
   have hf:=DB (f:=Ngt.comeB) (b:=N2) (k:=k)
   generalize (List.range k).foldl Ngt.comeB N2=Nk at *
   have hki:(k:Int).toNat<Nk.parties.length:=by rw [hNk.len,← hN.len];exact hkl
   obtain ⟨v,hnb,_⟩:=hτ.nblk
   have hpb:=hτ.pblk hki
   refine Ah fun J15 h15=>?_
   have k15:∀ t',Ar W s0 t' (Nk.comeB k)->J15 t':=by
    intro t' h'
    rw [h15]
    intro _
    refine AS (by omega) (Be _ (by omega) ⟨k+1,rfl,by omega,by omega,?_⟩)
    rw [hf]
    exact h'
   refine hS1.pix hNk (by omega) hki (AG (Bh hpb rfl (AG (Bh hnb rfl (AF (fun e=>?_) (fun e=>?_))))))
   ·refine Yd hS hNk hτ (hBk e) fun v σ' h'=>k15 _ ?_
    rw [Ngt.comeB,if_pos e]
    exact h'
   ·refine k15 _ ?_
    rw [Ngt.comeB,if_neg e]
    exact hτ
  ·have:k=N.parties.length:=by omega
   subst this
   refine Al ⟨rfl,?_⟩
   rw [Ngt.come,e2]
   exact hτ
 obtain ⟨v,hnb,_⟩:=h.nblk
 refine AG (Bu hnb rfl ?_)
 refine ⟨fun w i τ=>∃ k:Nat,w=N.parties.length-k/\i=k/\k<=N.parties.length/\Ar W s0 τ ((List.range k).foldl Ngt.comeA N),⟨_,0,rfl,rfl,by omega,h⟩,?_⟩
 rintro w i τ ⟨k,rfl,rfl,hk,hτ⟩ _
 refine AF (fun hlt=>?_) (fun hlt=>?_)
 ·have hkl:k<N.parties.length:=by omega
  have hS1:=hS.sub hτ.sub
  have hNk:=hsA k
  have hAk:=hA k hkl
  have hf:=DB (f:=Ngt.comeA) (b:=N) (k:=k)
  generalize (List.range k).foldl Ngt.comeA N=Nk at *
  have hki:(k:Int).toNat<Nk.parties.length:=by rw [hNk.len,← hN.len];exact hkl
  obtain ⟨v,hnb,_⟩:=hτ.nblk
  have hpb:=hτ.pblk hki
  refine Ah fun J15 h15=>?_
  have k15:∀ t',Ar W s0 t' (Nk.comeA k)->J15 t':=by
   intro t' h'
   rw [h15]
   intro _
   refine AS (by omega) (Be _ (by omega) ⟨k+1,rfl,by omega,by omega,?_⟩)
   rw [hf]
   exact h'
  refine hS1.pix hNk (by omega) hki (AG (Bh hpb rfl (AG (Bh hnb rfl (AF (fun e=>?_) (fun e=>?_))))))
  ·refine Sg hS hNk hτ (hAk e) fun v σ' h'=>k15 _ ?_
   rw [Ngt.comeA,if_pos e]
   exact h'
  ·refine k15 _ ?_
   rw [Ngt.comeA,if_neg e]
   exact hτ
 ·have:k=N.parties.length:=by omega
  subst this
  exact k3 _ hτ
end
def qt (xs:List (Int×Int)) (i:Int):Int×Int:=xs.getD i.toNat (0,0)
theorem Z1 {xs:List (Int×Int)} {i:Int} (h:i.toNat<xs.length):qt xs i=xs[i.toNat]:=by simp [qt,List.getD,h]
theorem Qh {xs:List (Int×Int)} {k:Nat} (h:k<xs.length):qt xs k=xs[k]:=by rw [Z1 (by simpa using h)];simp
theorem qix {σ:Hp} {A:aA} {n:Nat} {xs:List (Int×Int)} {i:Int} {K:Int->Int->Prop} (h:RdS sQ σ A n xs) (hi:0<=i) (hn:i<xs.length) (hk:K (qt xs i).1 (qt xs i).2):
  ix A n i 2 fun b a=>ldI σ .i64 b a fun x=>ldI σ .i64 b (a+1) fun y=>K x y:=by
 have hn':i.toNat<xs.length:=by omega
 refine Eg h rfl hi hn' fun b o hc=>?_
 rw [Z1 hn'] at hk
 exact ⟨_,hc 0 (by show 0<2;omega),_,hc 1 (by show 1<2;omega),hk⟩
theorem RdS.lenQ {σ:Hp} {A:aA} {n:Nat} {xs:List (Int×Int)} (h:RdS sQ σ A n xs):n=xs.length:=h.1
theorem Ak.RdQ {e:TypeId} {σ σ':Hp} {A:aA} {n c:Nat} {xs:List (Int×Int)} (h:Ak e sQ σ A n c xs σ'):RdS sQ σ' A n xs:=h.rd
theorem Ak.ix_stQ {e:TypeId} {σ σ':Hp} {A:aA} {n c:Nat} {xs:List (Int×Int)} {i v t:Int} {K:Hp->Prop} (h:Ak e sQ σ A n c xs σ') (hi:0<=i) (hn:i<xs.length)
  (hk:∀ σ2 τ2,Ak e sQ σ A n c (xs.set i.toNat (v,t)) σ2->Hp.Sub σ2 τ2->K τ2):ix A n i 2 fun b a=>st σ' b a (aD v) fun τ1=>st τ1 b (a+1) (aD t) K:=by
 have hn:i.toNat<xs.length:=by omega
 obtain ⟨b,off,rfl,hp⟩:=h.put (Hp.Sub.refl _) hn
 have hl:n=xs.length:=h.len
 obtain ⟨hw,σ2,ho2,hs2⟩:=hp 0 (aD v) (v,xs[i.toNat].2) rfl
 have hn2:i.toNat<(xs.set i.toNat (v,xs[i.toNat].2)).length:=by simpa using hn
 obtain ⟨b',off',hA,hp2⟩:=ho2.put hs2 hn2
 cases hA
 obtain ⟨hw2,σ3,ho3,hs3⟩:=hp2 1 (aD t) (v,t) ((congrArg (fun z:Int×Int=>setR sQ z 1 (aD t)) (List.getElem_set_self hn2)).trans rfl)
 refine ⟨hi,by omega,?_,?_,?_⟩
 ·simpa [Ce] using hw
 ·simpa [Ce,Nat.add_assoc] using hw2
 ·have e2:(xs.set i.toNat (v,xs[i.toNat].2)).set i.toNat (v,t)=xs.set i.toNat (v,t):=List.set_set ..
  refine hk σ3 _ ((congrArg (fun z:List (Int×Int)=>Ak e sQ σ (some ⟨b,off,none⟩) n c z σ3) e2).mp ho3) ?_
  simpa [Ce,Nat.add_assoc] using hs3
def Abn (f:Value) (p:Int×Int->Bool) (xs:List (Int×Int)) (T:Nat->Hp->Prop):Prop:=
 ∀ k,(hk:k<xs.length)->∀ σ,T k σ->cl prog f #[.agg #[aD xs[k].1,aD xs[k].2]] σ fun v σ'=>v=.bool (p xs[k])/\T (k+1) σ'
section
variable {sa σ:Hp} {A:aA} {n c:Nat} {xs:List (Int×Int)} {f:Value} {p:Int×Int->Bool} {T:Nat->Hp->Prop}
theorem Nv (ho:Ak 240 sQ sa A n c xs σ) (hl:xs.length<=4294967296) (h0:T 0 sa) (hf:Abn f p xs T):
  Af prog 256 #[aN A n c,f] σ fun v σ'=>∃ sa',Ak 240 sQ sa' A n c xs σ' /\
   ((∃ m:Nat,v=aD m/\(∃ h:m<xs.length,p xs[m]=true)/\(∀ j,(h:j<xs.length)->j<m->p xs[j]=false)/\T (m+1) sa') ∨
    (v=aD (-1)/\(∀ j,(h:j<xs.length)->p xs[j]=false)/\T xs.length sa')):=by
 apply Ea
 unfold BE
 refine Ah fun J3 h3=>?_
 have hn:n=xs.length:=ho.RdQ.lenQ
 refine ⟨fun w i τ=>∃ (k:Nat) (τa:Hp),w=xs.length-k/\i=k/\k<=xs.length/\Ak 240 sQ τa A n c xs τ/\T k τa/\∀ j,(h:j<xs.length)->j<k->p xs[j]=false,⟨_,0,sa,rfl,rfl,by omega,ho,h0,fun j _ h=>by omega⟩,?_⟩
 rintro w i τ ⟨k,τa,rfl,rfl,hk,hot,hT,hj⟩ _
 refine AF (fun hlt=>?_) (fun hlt=>?_)
 ·have hkl:k<xs.length:=by omega
  refine qix hot.RdQ (by omega) (by omega) ?_
  rw [Qh hkl]
  refine cl.own (hf k hkl τa hT) hot ?_
  rintro _ σb σ' ⟨rfl,hT'⟩ ho'
  refine ⟨_,rfl,C4 (fun hp=>Al ⟨σb,ho',.inl ⟨k,rfl,⟨hkl,hp⟩,hj,hT'⟩⟩) (fun hp=>AS (by omega) (Be _ (by omega) ⟨k+1,σb,rfl,by omega,by omega,ho',hT',fun j h hjk=>?_⟩))⟩
  rcases Nat.lt_or_ge j k with h1 | h1
  ·exact hj j h h1
  ·have:j=k:=by omega
   subst this
   exact hp
 ·have:k=xs.length:=by omega
  subst this
  rw [h3]
  intro _
  exact Al ⟨τa,hot,.inr ⟨rfl,fun j h=>hj j h h,hT⟩⟩
theorem EY {p:Int×Int->Bool} {xs:List (Int×Int)} {k:Nat} (h:k<xs.length):(xs.take (k+1)).filter p=(xs.take k).filter p++(if p xs[k]=true then [xs[k]] else []):=by
 rw [List.take_succ_eq_append_getElem h,List.filter_append]
 congr 1
 by_cases hp:p xs[k]=true<;>simp [hp]
set_option maxRecDepth 20000 in
theorem SC (ho:Ak 240 sQ sa A n c xs σ) (hl:xs.length<=4294967296) (h0:T 0 sa) (hf:Abn f p xs T):
  Af prog 224 #[aN A n c,f] σ fun v σ'=>∃ (sa':Hp) (m:Nat),v=aN A m c/\T xs.length sa'/\Ak 240 sQ sa' A m c (xs.filter fun x=>!p x) σ':=by
 apply DJ
 unfold BA
 have hn:n=xs.length:=ho.RdQ.lenQ
 have hnc:n<=c:=by
  rcases ho with ⟨_,rfl,rfl,_⟩ | ⟨_,_,_,_,_,h,_⟩
  ·exact Nat.le_refl _
  ·exact h
 refine AW (aV 256) (Nv ho hl h0 hf) ?_
 rintro v σ2 ⟨σb,ho2,(⟨m,rfl,⟨hm,hpm⟩,hj,hT⟩ | ⟨rfl,hj,hT⟩)⟩
 ·refine ⟨_,rfl,AF (fun h=>by omega) (fun _=>Ah fun J6 h6=>AS (by omega) ?_)⟩
  have k6:∀ (i:Nat) (τa τ:Hp) (ys:List (Int×Int)),i<=xs.length->ys.length=xs.length->ys.take i=xs.filter (fun x=>!p x)->T xs.length τa->Ak 240 sQ τa A n c ys τ->J6 i τ:=by
   intro i τa τ ys hi hys hyf hT' ho'
   rw [h6]
   intro _
   refine ⟨by omega,by omega,?_⟩
   have eb:∀ b off,A=some ⟨b,off,none⟩->(if c=i then (A:aA) else (A:aA).map (fun x=>x.add (i*2)))=some ⟨b,off+i*sQ.length,none⟩∨n-i=0:=by
    intro b off hA
    subst hA
    by_cases e:c=i
    ·exact .inr (by omega)
    ·refine .inl ?_
     rw [if_neg e]
     show some (Addr.add ⟨b,off,none⟩ (i*2))=_
     rw [Du]
     rfl
   have hfin:∀ σ3,Ak 240 sQ τa A i c (ys.take i) σ3->0<=(i:Int)/\(i:Int)<=(c:Int)/\rt σ3 (fun v σ'=>∃ (sa':Hp) (m:Nat),v=aN A m c/\T xs.length sa'/\Ak 240 sQ sa' A m c (xs.filter fun x=>!p x) σ') (aN A i c):=by
    intro σ3 h3
    exact ⟨by omega,by omega,Al ⟨τa,i,rfl,hT',(congrArg (fun z:List (Int×Int)=>Ak 240 sQ τa A i c z σ3) hyf).mp h3⟩⟩
   simp only [Int.toNat_natCast]
   have hck:Vf prog 170 240 sQ.length=true:=by kernel_rfl
   have hlt2:0<sQ.length:=by show 0<2;omega
   have hin:i<=n:=by omega
   have hbb:∀ b off,A=some ⟨b,off,none⟩->i<n->(if c=i then (A:aA) else (A:aA).map (fun x=>x.add (i*2)))=some ⟨b,off+i*sQ.length,none⟩:=by
    intro b off hA hlt
    rcases eb b off hA with h1 | h1
    ·exact h1
    ·omega
   exact Zg hck hlt2 ho' hin hbb hfin
  refine ⟨fun w i j τ=>∃ (i' k:Nat) (τa:Hp) (ys:List (Int×Int)),w=xs.length-k/\i=i'/\j=k/\i'<=k/\k<=xs.length/\ys.length=xs.length/\ys.take i'=(xs.take k).filter (fun x=>!p x)/\(∀ t,(h:t<xs.length)->k<=t->qt ys t=xs[t])/\T k τa/\Ak 240 sQ τa A n c ys τ,
   ⟨_,m,m+1,σb,xs,rfl,rfl,by omega,by omega,by omega,rfl,?_,fun t h _=>Qh h,hT,ho2⟩,?_⟩
  ·rw [EY hm,if_neg (by simp [hpm]),List.append_nil,eq_comm,List.filter_eq_self]
   intro x hx
   obtain ⟨j,hj',rfl⟩:=List.getElem_of_mem hx
   rw [List.length_take] at hj'
   rw [List.getElem_take,hj j (by omega) (by omega)]
   rfl
  rintro w i j τ ⟨i',k,τa,ys,rfl,rfl,rfl,hik,hk,hyl,hyf,hyt,hT',hot⟩ _
  refine AF (fun hlt=>?_) (fun hlt=>?_)
  ·have hkl:k<xs.length:=by omega
   refine Ah fun J18 h18=>?_
   refine qix hot.RdQ (by omega) (by omega) ?_
   rw [hyt k hkl (Nat.le_refl _)]
   refine cl.own (hf k hkl τa hT') hot ?_
   rintro _ sb' σ' ⟨rfl,hT2⟩ ho'
   have hft:=EY (p:=fun x=>!p x) hkl
   refine ⟨_,rfl,B5 (fun hp=>?_) (fun hp=>?_)⟩
   ·rw [if_pos (by simp [hp])] at hft
    refine ho'.ix_stQ (by omega) (by omega) fun σ3 τ3 ho3 hs3=>AS (by omega) ?_
    rw [h18]
    intro _
    refine AS (by omega) (Un _ (by omega) hs3 ⟨i'+1,k+1,sb',ys.set i' xs[k],rfl,by omega,by omega,by omega,by omega,by simpa using hyl,?_,fun t ht hkt=>?_,hT2,ho3⟩)
    ·rw [hft,← hyf,List.take_succ_eq_append_getElem (by simp;omega),List.take_set_of_le (Nat.le_refl _)]
     simp
    ·have:=hyt t ht (by omega)
     rw [← this]
     unfold qt
     simp only [List.getD,List.getElem?_set,Int.toNat_natCast]
     rw [if_neg (by omega)]
   ·rw [if_neg (by simp [hp]),List.append_nil] at hft
    rw [h18]
    intro _
    exact AS (by omega) (Be _ (by omega) ⟨i',k+1,sb',ys,rfl,rfl,by omega,by omega,by omega,hyl,by rw [hft];exact hyf,fun t h hkt=>hyt t h (by omega),hT2,ho'⟩)
  ·have:k=xs.length:=by omega
   subst this
   rw [List.take_length] at hyf
   exact k6 i' τa τ ys hik hyl hyf hT' hot
 ·refine ⟨_,rfl,AF (fun _=>Al ⟨σb,n,rfl,hT,?_⟩) (fun h=>absurd rfl h)⟩
  have:(xs.filter fun x=>!p x)=xs:=by
   rw [List.filter_eq_self]
   intro x hx
   obtain ⟨j,hj',rfl⟩:=List.getElem_of_mem hx
   rw [hj j hj']
   rfl
  exact (congrArg (fun z:List (Int×Int)=>Ak 240 sQ σb A n c z σ2) this).mpr ho2
end
def Ngt.quits (N:Ngt) (s:Int×Int):Bool:=decide ((N.pa s.1).g.patience<N.tick-s.2)
def Rq (xs:List (Int×Int)):List (Int×Int):=M9 (fun a b=>decide (a.1<=b.1)) xs
def Ngt.stay1 (N:Ngt) (r:Bth):Bth:={ r with queue:=r.queue.filter fun s=>!N.quits s }
def Ngt.leaveK (N:Ngt) (k:Nat):Ngt:={ N with rides:=(N.rides.take k).map N.stay1++N.rides.drop k }
def Ngt.goneK (N:Ngt) (k:Nat):List (Int×Int):=(N.rides.take k).flatMap fun r=>r.queue.filter N.quits
def Ngt.gone (N:Ngt):List (Int×Int):=Rq (N.goneK N.rides.length)
def Ngt.quit (N:Ngt) (s:Int×Int):Ngt:=(N.done s false).next s.1
def Ngt.leave (N:Ngt):Ngt:=N.gone.foldl Ngt.quit (N.leaveK N.rides.length)
theorem Ngt.leaveK_zero (N:Ngt):N.leaveK 0=N:=by simp [Ngt.leaveK]
theorem Ngt.leaveK_len (N:Ngt) (k:Nat):(N.leaveK k).rides.length=N.rides.length:=by simp [Ngt.leaveK];omega
theorem Ngt.leaveK_bo (N:Ngt) (k:Nat):(N.leaveK k).bo k=N.bo k:=by
 by_cases h:k<N.rides.length
 ·simp [Ngt.leaveK,Ngt.bo,List.getD,h,Nat.le_of_lt h]
 ·have h':N.rides.length<=k:=by omega
  simp [Ngt.leaveK,Ngt.bo,List.getD,h']
theorem Ngt.leaveK_succ (N:Ngt) {k:Nat} (h:k<N.rides.length):N.leaveK (k+1)=(N.leaveK k).setR k (N.stay1 (N.bo k)):=by
 unfold Ngt.leaveK Ngt.setR
 congr 1
 simp only [Int.toNat_natCast]
 have e:(N.bo k)=N.rides[k]:=by simp [Ngt.bo,List.getD,h]
 rw [e,List.take_succ_eq_append_getElem h,List.map_append,List.append_assoc,List.set_append_right _ _ (by simp;omega)]
 congr 1
 have:k-(List.map N.stay1 (List.take k N.rides)).length=0:=by simp;omega
 rw [this,List.drop_eq_getElem_cons h]
 rfl
theorem Ngt.goneK_succ (N:Ngt) {k:Nat} (h:k<N.rides.length):N.goneK (k+1)=N.goneK k++(N.bo k).queue.filter N.quits:=by
 have e:(N.bo k)=N.rides[k]:=by simp [Ngt.bo,List.getD,h]
 rw [e]
 unfold Ngt.goneK
 rw [List.take_succ_eq_append_getElem h,List.flatMap_append]
 simp
theorem Ngt.goneK_len (N:Ngt) (ho:∀ i,(N.bo i).queue.length<=1000000):∀ k:Nat,k<=N.rides.length->(N.goneK k).length<=k*1000000
 | 0,_=>by simp [Ngt.goneK]
 | k+1,h=>by
  have:=N.goneK_len ho k (by omega)
  rw [N.goneK_succ (by omega),List.length_append]
  have h2:((N.bo k).queue.filter N.quits).length<=1000000:=Nat.le_trans (List.length_filter_le ..) (ho k)
  omega
theorem Ngt.goneK_mem {N:Ngt} {k:Nat} {s:Int×Int} (h:s∈N.goneK k):∃ i,s∈(N.bo i).queue:=by
 obtain ⟨r,hr,hs⟩:=List.mem_flatMap.1 h
 obtain ⟨i,hi,rfl⟩:=List.getElem_of_mem (List.mem_of_mem_take hr)
 refine ⟨i,?_⟩
 have:N.bo i=N.rides[i]:=by simp [Ngt.bo,List.getD,hi]
 rw [this]
 exact (List.mem_filter.1 hs).1
def SortQ:Prop:=∀ (s0 σ:Hp) (A:aA) (n c:Nat) (xs:List (Int×Int)),Ak 240 sQ s0 A n c xs σ->xs.length<=4294967296->(∀ x∈xs,0<=x.1/\x.1<=1000000)->(xs.map Prod.fst).Nodup ->
 Af prog 226 #[aN A n c,.func (.func 227) #[] #[]] σ fun v σ'=>v=.tuple #[]/\Ak 240 sQ s0 A n c (Rq xs) σ'
structure RdN (W:NW) (σ:Hp) (N:Ngt):Prop where
 n:∃ v:SL,σ W.nb=some (.cells (Je W N v) 186 (0,0),true)
 p:∀ g:Int,g.toNat<N.parties.length->σ (W.pb g)=some (.cells (KP (W.ws g.toNat) (N.pa g)) 165 (0,0),true)
theorem RdN.sub {W:NW} {σ σ':Hp} {N:Ngt} (h:RdN W σ N) (hs:Hp.Sub σ σ'):RdN W σ' N:=⟨let ⟨v,h⟩:=h.n;⟨v,hs _ _ h⟩,fun g hg=>hs _ _ (h.p g hg)⟩
theorem RdN.congr {W:NW} {σ:Hp} {N N':Ngt} (h:RdN W σ N) (h1:N'.walk=N.walk) (h2:N'.tick=N.tick) (h3:N'.parties=N.parties):RdN W σ N':=by
 refine ⟨?_,fun g hg=>?_⟩
 ·obtain ⟨v,h⟩:=h.n
  exact ⟨v,by unfold Je at h ⊢;rw [h1,h2];exact h⟩
 ·have:=h.p g (by rw [← h3];exact hg)
  unfold Ngt.pa at this ⊢
  rw [h3]
  exact this
section
variable {W:NW} {s0 σ:Hp} {N:Ngt} {nr:Nat} {G:List Grp}
theorem Ar.queR (h:Ar W s0 σ N) {i:Int} (hi:i.toNat<N.rides.length):∃ (o q:SL) (s1:Hp),σ (W.rb i)=some (.cells (FT (N.bo i) o q) 172 (0,0),true)/\Ak 240 sQ s1 q.A q.n q.c (N.bo i).queue σ/\RdN W s1 N/\Hp.Sub s0 s1 /\
  ∀ (qs:List (Int×Int)) (s:SL) (σ2:Hp),Ak 240 sQ s1 s.A s.n s.c qs σ2->σ2.wr ⟨W.rb i,8,none⟩/\Ar W s0 (σ2.put ⟨W.rb i,8,none⟩ s.v) (N.setR i { N.bo i with queue:=qs }):=by
 obtain ⟨o,q,s1,h1,h2,h3⟩:=h.que hi
 obtain ⟨⟨cw,ew,hw,_⟩,h'⟩:=h3 [] ⟨none,0,0⟩ s1 (Ak.nil ..)
 have hi':i.toNat<(N.setR i { N.bo i with queue:=[] }).rides.length:=by show _<(List.set _ _ _).length;rw [List.length_set];exact hi
 obtain ⟨o',q',hb',_⟩:=h'.rblk hi'
 have ne:∀ {b:Nat} {c:Array Value} {e:TypeId},Hp.put s1 ⟨W.rb i,8,none⟩ (SL.v ⟨none,0,0⟩) b=some (.cells c e (0,0),true)->e≠172->s1 b=some (.cells c e (0,0),true):=by
  intro b c e hb he
  have hne:b≠W.rb i:=fun e'=>by
   rw [e',hb'] at hb
   injection hb with hb
   injection hb with hb _
   injection hb with _ hb _
   exact he hb.symm
  rwa [Hp.put_ne (show b≠(⟨W.rb i,8,none⟩:Addr).block from hne)] at hb
 refine ⟨o,q,s1,h1,h2,⟨?_,fun g hg=>?_⟩,?_,h3⟩
 ·obtain ⟨v,hv,_⟩:=h'.nblk
  exact ⟨v,ne hv (by decide)⟩
 ·exact ne (h'.pblk (g:=g) hg) (by decide)
 ·intro b x hb
  have h4:=h'.sub _ _ hb
  by_cases e:b=W.rb i
  ·exfalso
   subst e
   obtain ⟨σ3,r1,_⟩:=h.booth hi
   obtain ⟨o2,q2,s5,⟨s4,hk1,hk2⟩,hk3⟩:=r1
   obtain ⟨s6,r2,_⟩:=PK (k:=i.toNat+1) CX (by simp [BK,BP];omega) h
   obtain ⟨s7,r3,r4⟩:=h
   obtain ⟨s8,r5,r6⟩:=QD (k:=i.toNat+1) CX (by simp [BK,BP];omega) r3
   have e2:(BK W N)[i.toNat+1]'(by simp [BK,BP];omega)=GR (W.rb i) (N.bo i):=by
    have hk:i.toNat<(BP W N.rides).length:=by simpa [BP] using hi
    simp only [BK,List.getElem_cons_succ]
    rw [List.getElem_append_left hk]
    simp [BP,NW.rb,Ngt.bo]
   rw [e2] at r6
   obtain ⟨o3,q3,s9,⟨s10,⟨t1,_⟩,_⟩,_⟩:=r6
   have:Hp.Sub s0 s8:=Ay.sub (Ay.star fun R hR=>CX R (List.mem_of_mem_eraseIdx hR)) r5
   have:=this _ _ hb
   rw [t1] at this
   cases this
  ·rwa [Hp.put_ne (show b≠(⟨W.rb i,8,none⟩:Addr).block from e)] at h4
def O0 (b:Nat) (gs:List (Int×Int)):Rel:=fun σ σ'=>∃ s:SL,((Blk b (.cells #[s.v] 170 (0,0))).seq (fun s1 σ2=>Ak 240 sQ s1 s.A s.n s.c gs σ2)) σ σ'
theorem Ay.gone {b:Nat} {gs:List (Int×Int)}:Ay (O0 b gs):=Ay.ex fun _=>Ay.seq Ay.blk Ay.own
theorem Lse.put {R:Rel} (hR:Ay R) {s1 σ:Hp} (h:Lse R s1 σ) {b k:Nat} {x:Obj×Bool} (hb:s1 b=some x) (v:Value):Lse R (s1.put ⟨b,k,none⟩ v) (σ.put ⟨b,k,none⟩ v):=by
 obtain ⟨σ2,h1,h2⟩:=h
 exact ⟨_,Ay.put hR h1 hb v,PL h2 (hR.sub h1 _ _ hb) v⟩
theorem Wq {s1:Hp} {b44 b46:Nat} {gs:List (Int×Int)} {g came:Int} (hS:NSt W s1 nr G) (hN:N.stat nr G) (hr:RdN W s1 N) (hx:Bx1 s1 (some ⟨b44,0,none⟩) (.pointer (some ⟨W.nb,0,none⟩))) (h:Lse (O0 b46 gs) s1 σ)
  (g0:0<=g) (hg:g.toNat<N.parties.length) (hc:-1000000<=came/\came<=1000000) (ht:0<=N.tick/\N.tick<=5000) (hl:gs.length<=4000000000):
  Af prog 225 #[.agg #[aD g,aD came],.pointer (some ⟨b44,0,none⟩),.pointer (some ⟨b46,0,none⟩)] σ fun v σ'=>v=.bool (N.quits (g,came))/\Lse (O0 b46 (gs++if N.quits (g,came)=true then [(g,came)] else [])) s1 σ':=by
 apply HA
 unfold CD
 have hs:=h.sub Ay.gone
 have hS1:=hS.sub hs
 obtain ⟨v,hnb⟩:=(hr.sub hs).n
 have hpb:=(hr.sub hs).p g hg
 refine (hx.sub hs).ldP (AG (Bh hnb rfl (AS (by omega) ((hx.sub hs).ldP (AG (Bu hnb rfl (hS1.pix hN g0 hg (AG (Bh hpb rfl (Ah fun J22 h22=>?_))))))))))
 have eq:N.quits (g,came)=decide ((N.pa g).g.patience<N.tick-came):=rfl
 refine AF (fun hq=>?_) (fun hq=>?_)
 ·obtain ⟨s1',⟨s,σ2,hb1,hb2⟩,hs2⟩:=h.exact Ay.gone
  refine AG (Bu (hb2.sub _ _ hb1.get) rfl (CH hb2 (AY (by show gs.length+1<=_;omega) ?_)))
  intro A28 l28 c28 s29 o29
  obtain ⟨w1,w2,_⟩:=hb1.st o29.sub (k:=0) (show 0<1 by omega) (aN A28 l28 c28)
  refine AG ⟨w1,?_⟩
  rw [h22]
  intro _
  rw [decide_eq_true hq] at eq ⊢
  refine Al ⟨by rw [eq],Lse.low Ay.gone (Lse.of ?_) hs2⟩
  rw [eq,if_pos rfl]
  exact ⟨⟨A28,l28,c28⟩,_,w2,o29.putb hb1.get _⟩
 ·rw [h22]
  intro _
  rw [decide_eq_false hq] at eq ⊢
  refine Al ⟨by rw [eq],?_⟩
  rw [eq,if_neg (by simp),List.append_nil]
  exact h
set_option maxRecDepth 20000 in
theorem ZL (hso:SortQ) (hS:NSt W s0 nr G) (hN:N.stat nr G) (h:Ar W s0 σ N) (hr:nr<=1000) (hql:∀ i,(N.bo i).queue.length<=1000000)
  (hqs:∀ i,∀ s∈(N.bo i).queue,0<=s.1/\s.1.toNat<N.parties.length/\-1000000<=s.2/\s.2<=1000000) (hpl:N.parties.length<=1000000) (ht:0<=N.tick/\N.tick<=5000) (hnd:((N.goneK N.rides.length).map Prod.fst).Nodup)
  (hok:∀ k,(hk:k<N.gone.length)->((N.gone.take k).foldl Ngt.quit (N.leaveK N.rides.length)).Dne N.gone[k].1/\(((N.gone.take k).foldl Ngt.quit (N.leaveK N.rides.length)).done N.gone[k] false).Nxt N.gone[k].1):
  Af prog 168 #[.pointer (some ⟨W.nb,0,none⟩)] σ fun v σ'=>v=.tuple #[]/\Ar W s0 σ' N.leave:=by
 refine IR _ _ _ ?_
 unfold Da
 have hnr:N.rides.length=nr:=hN.1
 have hrl:W.r.n=N.rides.length:=by rw [hS.r.1,← hS.lr.trans hnr.symm];exact List.length_map ..
 have hkN:∀ k,(N.leaveK k).stat nr G:=fun k=>⟨by rw [N.leaveK_len];exact hnr,hN.2⟩
 refine Ah fun J3 h3=>?_
 have k3:∀ b44 b46 s0' s1 σ2,Hp.Sub s0 s0'->Bx1 s0' (some ⟨b44,0,none⟩) (.pointer (some ⟨W.nb,0,none⟩))->Ar W s0' s1 (N.leaveK N.rides.length)->Lse (O0 b46 (N.goneK N.rides.length)) s1 σ2->J3 (some ⟨b44,0,none⟩) (some ⟨b46,0,none⟩) σ2:=by
  intro b44 b46 s0' s1 σ2 hs0 hx hn hg
  rw [h3]
  intro _
  have hgl:=N.goneK_len hql N.rides.length (by omega)
  obtain ⟨s1',⟨s,σ3,hb1,hb2⟩,hs2⟩:=hg.exact Ay.gone
  have hn':=hn.up hs2
  refine AG (Bu (hb2.sub _ _ hb1.get) rfl ?_)
  refine AW (aV 226) (hso _ _ _ _ _ _ hb2 (by omega) (fun x hx=>?_) hnd) ?_
  ·obtain ⟨i,hi⟩:=Ngt.goneK_mem hx
   have:=hqs i x hi
   omega
  rintro _ s10 ⟨rfl,hb10⟩
  refine AG (Bu (hb10.sub _ _ hb1.get) rfl ?_)
  change Ak 240 sQ σ3 s.A s.n s.c N.gone s10 at hb10
  obtain ⟨sa,ha1,ha2⟩:=Lse.swap Cg Ay.gone hn' (Lse.of (R:=O0 b46 N.gone) ⟨s,σ3,hb1,hb10⟩)
  have hsa:=ha1.sub Ay.gone
  have hxa:=hx.sub hsa
  have hra:RdS sQ sa s.A s.n N.gone:=by
   obtain ⟨σb,⟨s',σc,hc1,hc2⟩,hsb⟩:=ha1
   have e1:=ha2.sub Cg _ _ (hsb _ _ (hc2.sub _ _ hc1.get))
   have e2:=hb10.sub _ _ hb1.get
   rw [e1] at e2
   injection e2 with e2
   injection e2 with e2 _
   injection e2 with e2 _ _
   injection e2 with e2
   injection e2 with e2 _
   injection e2 with p1 p2 p3
   have:=hc2.RdQ.sub hsb
   rw [p1,p2] at this
   exact this
  have hSa:=hS.sub (hs0.trans hsa)
  have hgn:N.gone.length=(N.goneK N.rides.length).length:=IW ..
  have hl:=hra.lenQ
  have hst:∀ k,((N.gone.take k).foldl Ngt.quit (N.leaveK N.rides.length)).stat nr G:=fun k=>BG (fun N s h=>Ngt.next_stat (Ngt.done_stat h _ _) _) _ _ (hkN _)
  change Ar W sa s10 (N.leaveK N.rides.length) at ha2
  refine ⟨fun w i τ=>∃ k:Nat,w=N.gone.length-k/\i=k/\k<=N.gone.length/\Ar W sa τ ((N.gone.take k).foldl Ngt.quit (N.leaveK N.rides.length)),⟨_,0,rfl,rfl,by omega,ha2⟩,?_⟩
  rintro w i τ ⟨k,rfl,rfl,hk,hτ⟩ _
  refine AF (fun hlt=>?_) (fun hlt=>?_)
  ·have hkl:k<N.gone.length:=by omega
   obtain ⟨ok1,ok2⟩:=hok k hkl
   refine qix (hra.sub hτ.sub) (by omega) (by omega) ?_
   rw [Qh hkl]
   refine (hxa.sub hτ.sub).ldP ?_
   refine YX hSa (hst k) hτ ok1 fun v s7 h7=>?_
   refine (hxa.sub h7.sub).ldP ?_
   refine Sg hSa (Ngt.done_stat (hst k) _ _) h7 ok2 fun v s8 h8=>?_
   refine AS (by omega) (Be _ (by omega) ⟨k+1,rfl,by omega,by omega,?_⟩)
   rw [Lv hkl]
   exact h8
  ·have:k=N.gone.length:=by omega
   subst this
   rw [List.take_length] at hτ
   exact Al ⟨rfl,hτ.low (hs0.trans hsa)⟩
 obtain ⟨v,hnb,_⟩:=h.nblk
 refine AG (Bu hnb rfl ?_)
 refine ⟨fun w p q i τ=>∃ (k b44 b46:Nat) (s0' s1:Hp),w=N.rides.length-k/\p=some ⟨b44,0,none⟩/\q=some ⟨b46,0,none⟩/\i=k/\k<=N.rides.length/\Hp.Sub s0 s0'/\Bx1 s0' (some ⟨b44,0,none⟩) (.pointer (some ⟨W.nb,0,none⟩))/\Ar W s0' s1 (N.leaveK k)/\Lse (O0 b46 (N.goneK k)) s1 τ,⟨N.rides.length,?_⟩,?_⟩
 ·intro b44 n44 b46 n46
  obtain ⟨s0',u1,u2⟩:=Lse.swap Cg (Ay.blk (b:=b44) (o:=.cells #[.pointer (some ⟨W.nb,0,none⟩)] 187 (0,0))) h (Lse.of ⟨n44,rfl⟩)
  refine ⟨0,b44,b46,s0',_,rfl,rfl,rfl,rfl,by omega,u1.sub Ay.blk,?_,by rw [N.leaveK_zero];exact u2,Lse.of ⟨⟨none,0,0⟩,_,⟨n46,rfl⟩,Ak.nil ..⟩⟩
  obtain ⟨σb,c1,c2⟩:=u1
  exact ⟨b44,rfl,H4 (c2 _ _ c1.get) rfl⟩
 rintro w p q i τ ⟨k,b44,b46,s0',s1,rfl,rfl,rfl,rfl,hk,hs0,hx,hn,hg⟩ _
 refine AF (fun hlt=>?_) (fun hlt=>?_)
 ·have hkl:k<N.rides.length:=by omega
  have hki:(k:Int).toNat<(N.leaveK k).rides.length:=by rw [N.leaveK_len];exact hkl
  have hSt:=(hS.sub hs0).sub (hn.sub.trans (hg.sub Ay.gone))
  have hgl:=N.goneK_len hql k (by omega)
  obtain ⟨o,q,s1',hrb,ho,hrd,hs1,hkk⟩:=hn.queR hki
  rw [N.leaveK_bo] at hrb ho hkk
  have hrd:RdN W s1' N:=hrd.congr rfl rfl rfl
  have hgs:=hg.sub Ay.gone
  refine hSt.rix (hkN k) (by omega) hki (AG (Bu (hgs _ _ hrb) rfl ?_))
  obtain ⟨s5,hg5,ho5⟩:=Lse.own_up Ay.gone ho hg
  have hxl:=hql k
  have hqk:=hqs k
  have hS1':=hS.sub (hs0.trans hs1)
  have hx1:=hx.sub hs1
  refine AW (aV 224) (SC (p:=N.quits) (T:=fun j σ=>Lse (O0 b46 (N.goneK k++((N.bo k).queue.take j).filter N.quits)) s1' σ) ho5 (by omega) (by simpa using hg5) ?_) ?_
  ·intro j hj s6 h6
   have hmem:=hqk _ (List.getElem_mem hj)
   have hfl:(((N.bo k).queue.take j).filter N.quits).length<=1000000:=Nat.le_trans (List.length_filter_le ..) (by rw [List.length_take];omega)
   refine B7.func (aV 225) ?_
   refine (Wq (g:=((N.bo k).queue[j]).1) (came:=((N.bo k).queue[j]).2) hS1' hN hrd hx1 h6 hmem.1 hmem.2.1 hmem.2.2 ht (by rw [List.length_append];omega)).mono ?_
   rintro _ s7 ⟨rfl,h7⟩
   refine ⟨rfl,?_⟩
   show Lse (O0 b46 (N.goneK k++((N.bo k).queue.take (j+1)).filter N.quits)) s1' s7
   rw [EY hj,← List.append_assoc]
   exact h7
  ·rintro _ s58 ⟨sa',m,rfl,hT,hfo⟩
   rw [List.take_length,← N.goneK_succ hkl] at hT
   obtain ⟨s8,h8,h9⟩:=Lse.own_down Ay.gone hT hfo
   obtain ⟨w1,h10⟩:=hkk _ ⟨q.A,m,q.c⟩ s8 h8
   refine ⟨_,_,_,rfl,AG ⟨?_,?_⟩⟩
   ·obtain ⟨c,e,hb,hlt,hsp⟩:=w1
    exact ⟨c,e,h9.sub Ay.gone _ _ hb,hlt,hsp⟩
   ·obtain ⟨c,e,hb,hlt,hsp⟩:=w1
    refine AS (by omega) (Be _ (by omega) ⟨k+1,b44,b46,s0',_,rfl,rfl,rfl,by omega,by omega,hs0,hx,?_,Lse.put Ay.gone h9 hb _⟩)
    rw [N.leaveK_succ hkl]
    exact h10
 ·have:k=N.rides.length:=by omega
  subst this
  exact k3 _ _ _ _ _ hs0 hx hn hg
end
structure Fl where
 N:Ngt
 stay:List (Int×Int)
 away:List Int
 seats:Int
def Ngt.cost (N:Ngt) (i:Int) (s:Int×Int):Int:=(N.pa s.1).g.size*(N.bo i).b.price
def Ngt.pays (N:Ngt) (i:Int) (s:Int×Int):Ngt:=N.setP s.1 { N.pa s.1 with purse:=(N.pa s.1).purse-N.cost i s }
def Ngt.gets (N:Ngt) (i:Int) (s:Int×Int):Ngt:=(N.pays i s).setR i { N.bo i with takes:=(N.bo i).takes+N.cost i s,on:=(N.bo i).on++[s.1] }
def Fl.bad (S:Fl) (i:Int) (s:Int×Int):Bool:=decide ((S.N.bo i).b.seats<(S.N.pa s.1).g.size)||decide ((S.N.pa s.1).purse<S.N.cost i s)
def Fl.full (S:Fl) (s:Int×Int):Bool:=decide (S.seats<(S.N.pa s.1).g.size)
def Fl.out (S:Fl) (s:Int×Int):Fl:={ S with N:=S.N.done s false,away:=S.away++[s.1] }
def Fl.keep (S:Fl) (s:Int×Int):Fl:={ S with stay:=S.stay++[s] }
def Fl.ride (S:Fl) (i:Int) (s:Int×Int):Fl:={ S with N:=(S.N.gets i s).done s true,seats:=S.seats-(S.N.pa s.1).g.size }
def Cb (i:Int):List (Int×Int)->Fl->Fl
 | [],S=>S
 | s::q,S=>
  if S.bad i s=true then Cb i q (S.out s)
  else if S.full s=true then (if (S.N.bo i).b.fill=true then Cb i q (S.keep s) else { S with stay:=S.stay++s::q })
  else Cb i q (S.ride i s)
structure FlB (i:Int) (S:Fl) (s:Int×Int) (q:List (Int×Int)):Prop where
 g0:0<=s.1
 hg:s.1.toNat<S.N.parties.length
 hi:i.toNat<S.N.rides.length
 hz:0<=(S.N.pa s.1).g.size/\(S.N.pa s.1).g.size<=1000
 hp:0<=(S.N.bo i).b.price/\(S.N.bo i).b.price<=1000
 hs:-1000000<=S.seats/\S.seats<=1000000
 hu:-1000000000<=(S.N.pa s.1).purse/\(S.N.pa s.1).purse<=1000000000
 ht:-1000000000<=(S.N.bo i).takes/\(S.N.bo i).takes<=1000000000
 ho:(S.N.bo i).on.length<=1000000
 ha:S.away.length<=1000000
 hst:S.stay.length+q.length<=1000000
def KD (i:Int):List (Int×Int)->Fl->Prop
 | [],_=>True
 | s::q,S=>FlB i S s q /\
  (S.bad i s=true->S.N.Dne s.1/\KD i q (S.out s)) /\
  (S.bad i s=false->S.full s=true->(S.N.bo i).b.fill=true->KD i q (S.keep s)) /\
  (S.bad i s=false->S.full s=false->(S.N.gets i s).Dne s.1/\KD i q (S.ride i s))
def Ngt.shut (N:Ngt) (i:Int):Bool:=decide (0<(N.bo i).on.length)||(decide (0<=(N.bo i).ended)&&decide (N.tick-(N.bo i).ended<(N.bo i).b.pause)||decide ((N.bo i).queue.length=0))
def Ngt.fl0 (N:Ngt) (i:Int):Fl:=⟨N.setR i { N.bo i with queue:=[] },[],[],(N.bo i).b.seats⟩
def Ngt.fl (N:Ngt) (i:Int):Fl:=Cb i (N.bo i).queue (N.fl0 i)
def Fl.back (S:Fl) (i:Int):Ngt:=S.N.setR i { S.N.bo i with queue:=S.stay }
def Ngt.gone1 (N:Ngt) (i:Int):Ngt:=(N.fl i).away.foldl Ngt.next ((N.fl i).back i)
def Ngt.start (N:Ngt) (i:Int):Ngt:=if 0<(N.bo i).on.length then N.setR i { N.bo i with begun:=N.tick } else N
def Ngt.begin (N:Ngt) (i:Int):Ngt:=if N.shut i=true then N else (N.gone1 i).start i
section
variable {W:NW} {s0 σ:Hp} {N:Ngt} {nr:Nat} {G:List Grp}
def Br (W:NW) (R:Rel) (s0 σ:Hp) (N:Ngt):Prop:=∃ sa,Ar W s0 sa N/\R sa σ
theorem Br.sub {R:Rel} (hR:Ay R) (h:Br W R s0 σ N):Hp.Sub s0 σ:=let ⟨_,h1,h2⟩:=h;h1.sub.trans (hR.sub h2)
theorem Br.nblk {R:Rel} (hR:Ay R) (h:Br W R s0 σ N):∃ v:SL,σ W.nb=some (.cells (Je W N v) 186 (0,0),true):=by
 obtain ⟨sa,h1,h2⟩:=h
 obtain ⟨v,hv,_⟩:=h1.nblk
 exact ⟨v,hR.sub h2 _ _ hv⟩
theorem Br.pblk {R:Rel} (hR:Ay R) (h:Br W R s0 σ N) {g:Int} (hg:g.toNat<N.parties.length):σ (W.pb g)=some (.cells (KP (W.ws g.toNat) (N.pa g)) 165 (0,0),true):=by
 obtain ⟨sa,h1,h2⟩:=h
 exact hR.sub h2 _ _ (h1.pblk hg)
theorem Br.rblk {R:Rel} (hR:Ay R) (h:Br W R s0 σ N) {i:Int} (hi:i.toNat<N.rides.length):∃ o q:SL,σ (W.rb i)=some (.cells (FT (N.bo i) o q) 172 (0,0),true)/\RdS aM σ o.A o.n (N.bo i).on/\RdS sQ σ q.A q.n (N.bo i).queue:=by
 obtain ⟨sa,h1,h2⟩:=h
 obtain ⟨o,q,hb,h3,h4⟩:=h1.rblk hi
 exact ⟨o,q,hR.sub h2 _ _ hb,h3.sub (hR.sub h2),h4.sub (hR.sub h2)⟩
theorem R2 {σ σ':Hp} {a:Addr} (h:σ.wr a) (hs:Hp.Sub σ σ'):σ'.wr a:=let ⟨c,e,hb,h1,h2⟩:=h;⟨c,e,hs _ _ hb,h1,h2⟩
theorem Br.stP {R:Rel} (hR:Ay R) (h:Br W R s0 σ N) {g:Int} (hg:g.toNat<N.parties.length) {k:Nat} {v:Value} {p':Pty} (hk:k<9) (hc:KP (W.ws g.toNat) p'=(KP (W.ws g.toNat) (N.pa g)).setIfInBounds k v):
  σ.wr ⟨W.pb g,k,none⟩/\Br W R s0 (σ.put ⟨W.pb g,k,none⟩ v) (N.setP g p'):=by
 obtain ⟨sa,h1,h2⟩:=h
 obtain ⟨w,h3⟩:=h1.stP hg hk hc
 exact ⟨R2 w (hR.sub h2),_,h3,Ay.put hR h2 (h1.pblk hg) v⟩
theorem Br.stR {R:Rel} (hR:Ay R) (h:Br W R s0 σ N) {i:Int} (hi:i.toNat<N.rides.length) {k:Nat} {v:Value} {r':Bth} (hk:k<11) (e1:r'.on=(N.bo i).on) (e2:r'.queue=(N.bo i).queue) (hc:∀ o q,FT r' o q=(FT (N.bo i) o q).setIfInBounds k v):
  σ.wr ⟨W.rb i,k,none⟩/\Br W R s0 (σ.put ⟨W.rb i,k,none⟩ v) (N.setR i r'):=by
 obtain ⟨sa,h1,h2⟩:=h
 obtain ⟨w,h3⟩:=h1.stR hi hk e1 e2 hc
 obtain ⟨o,q,hb,_⟩:=h1.rblk hi
 exact ⟨R2 w (hR.sub h2),_,h3,Ay.put hR h2 hb v⟩
theorem Br.ons {R:Rel} (hR:Ay R) (h:Br W R s0 σ N) {i:Int} (hi:i.toNat<N.rides.length):∃ (o q:SL) (s1:Hp),σ (W.rb i)=some (.cells (FT (N.bo i) o q) 172 (0,0),true)/\Ak 3 aM s1 o.A o.n o.c (N.bo i).on σ /\
  ∀ (xs:List Int) (s:SL) (σ2:Hp),Ak 3 aM s1 s.A s.n s.c xs σ2->σ2.wr ⟨W.rb i,5,none⟩/\Br W R s0 (σ2.put ⟨W.rb i,5,none⟩ s.v) (N.setR i { N.bo i with on:=xs }):=by
 obtain ⟨sa,h1,h2⟩:=h
 obtain ⟨o,q,s1,hb,ho,hk⟩:=h1.ons hi
 obtain ⟨s1',h3,h4⟩:=Ay.swap (R:=fun σ σ'=>Ak 3 aM σ o.A o.n o.c (N.bo i).on σ') Ay.own hR ho h2
 refine ⟨o,q,s1',hR.sub h2 _ _ hb,h4,fun xs s σ2 h5=>?_⟩
 obtain ⟨σ3,h6,h7⟩:=Ay.swap (S:=fun σ σ'=>Ak 3 aM σ s.A s.n s.c xs σ') hR Ay.own h3 h5
 obtain ⟨w,h8⟩:=hk xs s σ3 h6
 have w':=w
 obtain ⟨c,e,hb',_⟩:=w'
 exact ⟨R2 w (hR.sub h7),_,h8,Ay.put hR h7 hb' _⟩
theorem VP {R:Rel} (hR:Ay R) (hS:NSt W s0 nr G) (hN:N.stat nr G) (h:Br W R s0 σ N) {g came:Int} {on:Bool} (hg:N.Dne g) {K:aB} (hk:∀ v σ',Br W R s0 σ' (N.done (g,came) on)->K v σ'):aC 228 #[.pointer (some ⟨W.nb,0,none⟩),.agg #[aD g,aD came],.bool on] σ K:=by
 obtain ⟨sa,h1,h2⟩:=h
 refine B7.mono (cl.over hR (YX hS hN h1 hg (K:=fun _ σ'=>Ar W s0 σ' (N.done (g,came) on)) fun _ _ h=>h) h2) ?_
 rintro v σ' ⟨sa',h3,h4⟩
 exact hk v σ' ⟨sa',h3,h4⟩
def S6 (s:SL) (stay:List (Int×Int)) (a:SL) (away:List Int):Rel:=Rel.seq (fun σ σ'=>Ak 240 sQ σ s.A s.n s.c stay σ') (fun σ σ'=>Ak 3 aM σ a.A a.n a.c away σ')
theorem Ay.two {s a:SL} {stay:List (Int×Int)} {away:List Int}:Ay (S6 s stay a away):=Ay.seq Ay.own Ay.own
theorem Br.away {s a:SL} {stay:List (Int×Int)} {away:List Int} (h:Br W (S6 s stay a away) s0 σ N):∃ s1,Ak 3 aM s1 a.A a.n a.c away σ/\∀ (a':SL) (xs:List Int) σ2,Ak 3 aM s1 a'.A a'.n a'.c xs σ2->Br W (S6 s stay a' xs) s0 σ2 N:=by
 obtain ⟨sa,h1,s1,h2,h3⟩:=h
 exact ⟨s1,h3,fun a' xs σ2 h4=>⟨sa,h1,s1,h2,h4⟩⟩
theorem Br.stay {s a:SL} {stay:List (Int×Int)} {away:List Int} (h:Br W (S6 s stay a away) s0 σ N):∃ s1,Ak 240 sQ s1 s.A s.n s.c stay σ/\∀ (s':SL) (xs:List (Int×Int)) σ2,Ak 240 sQ s1 s'.A s'.n s'.c xs σ2->Br W (S6 s' xs a away) s0 σ2 N:=by
 obtain ⟨sa,h1,s1,h2,h3⟩:=h
 obtain ⟨σ2,h4,h5⟩:=h2.swap h3
 refine ⟨σ2,h5,fun s' xs σ3 h6=>?_⟩
 obtain ⟨s4,h7,h8⟩:=h4.swap h6
 exact ⟨sa,h1,s4,h7,h8⟩
set_option maxRecDepth 20000 in
theorem Zl (hS:NSt W s0 nr G) (hN:N.stat nr G) (h:Ar W s0 σ N) {i:Int} (i0:0<=i) (hi:i.toNat<N.rides.length)
  (hb:-1000000<=(N.bo i).ended/\(N.bo i).ended<=1000000) (ht:0<=N.tick/\N.tick<=5000)
  (hf:N.shut i=false->KD i (N.bo i).queue (N.fl0 i)) (hql:(N.bo i).queue.length<=1000000)
  (hal:(N.fl i).away.length<=1000000) (hok:N.shut i=false->∀ k,(hk:k<(N.fl i).away.length)->(((N.fl i).away.take k).foldl Ngt.next ((N.fl i).back i)).Nxt (N.fl i).away[k]):
  Af prog 169 #[.pointer (some ⟨W.nb,0,none⟩),aD i] σ fun v σ'=>v=.tuple #[]/\Ar W s0 σ' (N.begin i):=by
 refine IJ _ _ _ _ ?_
 unfold Dp
 have hS1:=hS.sub h.sub
 obtain ⟨vn,hnb,_⟩:=h.nblk
 obtain ⟨o,q,hrb,hro,hrq⟩:=h.rblk hi
 have hol:=hro.lenI
 have hql':=hrq.lenQ
 refine AG (Bu hnb rfl (hS1.rix hN i0 hi (Ah fun J9 h9=>Ah fun J159 h159=>?_)))
 have k9:N.shut i=false->J9 σ:=by
  intro hsh
  have hf:=hf hsh
  have hok:=hok hsh
  rw [h9]
  intro _
  obtain ⟨o,q,sq,hrb,hoq,hw8,h1⟩:=h.outQ hi
  refine AG (Bu hrb rfl (AG ⟨hw8,?_⟩))
  show dr _ _
  have hSq:=hS.sub hoq.sub
  have hN1:(N.setR i { N.bo i with queue:=[] }).stat nr G:=hN.setR
  have hbo1:(N.setR i { N.bo i with queue:=[] }).bo i={ N.bo i with queue:=[] }:=by rw [Ngt.bo_setR hi,if_pos rfl]
  have hrq:RdS sQ sq q.A q.n (N.bo i).queue:=hoq.RdQ
  have hqn:=hrq.lenQ
  have hqc:q.n<=q.c:=by
   rcases hoq with ⟨_,e1,e2,_⟩ | ⟨_,_,_,_,_,h,_⟩
   ·omega
   ·exact h
  have hi1:i.toNat<(N.setR i { N.bo i with queue:=[] }).rides.length:=by show _<(List.set _ _ _).length;rw [List.length_set];exact hi
  obtain ⟨o1,q1,hrb1,_⟩:=h1.rblk hi1
  rw [hbo1] at hrb1
  have e0:N.fl0 i=⟨N.setR i { N.bo i with queue:=[] },[],[],(N.bo i).b.seats⟩:=rfl
  generalize σ.put ⟨W.rb i,0+8,none⟩ (aN none 0 0)=s15 at *
  refine AG (Bh hrb1 rfl (Ah fun J21 h21=>?_))
  have k21:∀ (A l c A' l' c') (τ:Hp),(N.fl i).N.stat nr G->i.toNat<(N.fl i).N.rides.length->Br W (S6 ⟨A,l,c⟩ (N.fl i).stay ⟨A',l',c'⟩ (N.fl i).away) sq τ (N.fl i).N->J21 A l c A' l' c' τ:=by
   intro A l c A' l' c' τ hNf hif hτ
   rw [h21]
   intro _
   obtain ⟨sa,t1,σb,t2,t3⟩:=hτ
   obtain ⟨o2,q2,σ2,hb2,ho2,hk2⟩:=t1.que hif
   obtain ⟨σ3,u1,u2⟩:=Ak.swap ho2 t2
   obtain ⟨w1,w2⟩:=hk2 _ ⟨A,l,c⟩ σ3 u1
   have w1':=w1
   obtain ⟨cc,ee,hbb,_⟩:=w1'
   have s3:=u2.sub.trans t3.sub
   refine AG ⟨R2 w1 s3,?_⟩
   have hback:(N.fl i).back i=(N.fl i).N.setR i { (N.fl i).N.bo i with queue:=(N.fl i).stay }:=rfl
   have hba:(N.fl i).N.setR i { (N.fl i).N.bo i with queue:=(N.fl i).stay }=(N.fl i).back i:=rfl
   rw [hba] at w2
   have hNb:((N.fl i).back i).stat nr G:=hNf.setR
   have hg1:N.gone1 i=(N.fl i).away.foldl Ngt.next ((N.fl i).back i):=rfl
   have hbeg:N.begin i=(N.gone1 i).start i:=by rw [Ngt.begin,if_neg (by rw [hsh];simp)]
   have hlen:((N.fl i).back i).rides.length=nr:=hNb.1
   generalize (N.fl i).back i=Nb at *
   have p1:Ar W sq (σb.put ⟨W.rb i,8,none⟩ (SL.v ⟨A,l,c⟩)) Nb:=w2.up (PL u2.sub hbb _)
   have p2:Ak 3 aM (σb.put ⟨W.rb i,8,none⟩ (SL.v ⟨A,l,c⟩)) A' l' c' (N.fl i).away (τ.put ⟨W.rb i,8,none⟩ (SL.v ⟨A,l,c⟩)):=t3.putb (u2.sub _ _ hbb) _
   obtain ⟨sq2,v1,v2⟩:=Lse.own_down Cg p1 p2
   change Ar W sq2 _ Nb at v2
   have hSq2:=hSq.sub v1.sub
   have hl:=v1.RdI.lenI
   have hv1:=v1.RdI
   have hlow:Hp.Sub s0 sq2:=hoq.sub.trans v1.sub
   generalize (N.fl i).away=aw at *
   show cut _ _
   refine Ah fun J29 h29=>?_
   have k29:∀ t',Ar W sq2 t' (N.gone1 i)->(N.gone1 i).stat nr G->J29 t':=by
    intro t' hτ' hst'
    rw [h29]
    intro _
    have hi':i.toNat<(N.gone1 i).rides.length:=by rw [hst'.1,← hN.1];exact hi
    obtain ⟨o3,q3,hb3,hro3,_⟩:=hτ'.rblk hi'
    obtain ⟨v3,hn3,_⟩:=hτ'.nblk
    have hl3:=hro3.lenI
    refine AG (Bu hb3 rfl (AF (fun e=>?_) (fun e=>?_)))
    ·refine AG (Bh hn3 rfl (AG ?_))
     obtain ⟨x1,x2⟩:=hτ'.stR hi' (k:=6) (v:=aD (N.gone1 i).tick) (r':={ (N.gone1 i).bo i with begun:=(N.gone1 i).tick }) (by omega) rfl rfl fun _ _=>rfl
     refine ⟨x1,Al ⟨rfl,?_⟩⟩
     rw [hbeg,Ngt.start,if_pos (by omega)]
     exact x2.low hlow
    ·refine Al ⟨rfl,?_⟩
     rw [hbeg,Ngt.start,if_neg (by omega)]
     exact hτ'.low hlow
   have hstk:∀ k,((aw.take k).foldl Ngt.next Nb).stat nr G:=fun k=>BG (fun N g h=>N.next_stat h g) _ _ hNb
   refine ⟨fun w j t'=>∃ k:Nat,w=aw.length-k/\j=k/\k<=aw.length/\Ar W sq2 t' ((aw.take k).foldl Ngt.next Nb),⟨_,0,rfl,rfl,by omega,v2⟩,?_⟩
   rintro w j t' ⟨k,rfl,rfl,hk,hτ'⟩ _
   refine AF (fun hlt=>?_) (fun hlt=>?_)
   ·have hkl:k<aw.length:=by omega
    refine EJ (hv1.sub hτ'.sub) (by omega) (by omega) ?_
    rw [B3 hkl]
    refine Sg hSq2 (hstk k) hτ' (hok k hkl) fun v s8 h8=>?_
    refine AS (by omega) (Be _ (by omega) ⟨k+1,rfl,by omega,by omega,?_⟩)
    rw [Lv hkl]
    exact h8
   ·have:k=aw.length:=by omega
    subst this
    have hs:=hstk aw.length
    rw [List.take_length] at hτ' hs
    rw [← hg1] at hτ' hs
    exact k29 _ hτ' hs
  have efl:Cb i (N.bo i).queue (N.fl0 i)=N.fl i:=rfl
  refine ⟨fun w A l c A' l' c' seats j τ=>∃ (k:Nat) (S:Fl),w=(N.bo i).queue.length-k/\j=k/\k<=(N.bo i).queue.length/\seats=S.seats/\KD i ((N.bo i).queue.drop k) S/\Cb i ((N.bo i).queue.drop k) S=N.fl i/\S.N.stat nr G/\Br W (S6 ⟨A,l,c⟩ S.stay ⟨A',l',c'⟩ S.away) sq τ S.N,
   ⟨_,0,N.fl0 i,rfl,rfl,by omega,rfl,hf,efl,hN1,s15,h1,s15,Ak.nil ..,Ak.nil ..⟩,?_⟩
  rintro w A l c A' l' c' seats j τ ⟨k,S,rfl,rfl,hk,rfl,hfk,hfs,hst,hτ⟩ _
  have hSi:i.toNat<S.N.rides.length:=by rw [hst.1,← hN.1];exact hi
  refine AF (fun hlt=>?_) (fun hlt=>?_)
  ·have hkl:k<(N.bo i).queue.length:=by omega
   have hdr:=List.drop_eq_getElem_cons hkl
   have hsub:=hτ.sub Ay.two
   have hSt:=hSq.sub hsub
   refine Ah fun J62 h62=>?_
   have k62:∀ (A l c A' l' c') (S':Fl) (t':Hp),KD i ((N.bo i).queue.drop (k+1)) S'->Cb i ((N.bo i).queue.drop (k+1)) S'=N.fl i->S'.N.stat nr G->Br W (S6 ⟨A,l,c⟩ S'.stay ⟨A',l',c'⟩ S'.away) sq t' S'.N->J62 A l c A' l' c' S'.seats t':=by
    intro A l c A' l' c' S' t' hf' he' hst' hτ'
    rw [h62]
    intro _
    exact AS (by omega) (Be _ (by omega) ⟨k+1,S',rfl,by omega,by omega,rfl,hf',he',hst',hτ'⟩)
   rw [hdr] at hfk hfs
   have hrest:((N.bo i).queue.drop k).length=(N.bo i).queue.length-k:=List.length_drop ..
   refine qix (hrq.sub hsub) (by omega) (by omega) ?_
   rw [Qh hkl]
   have hdl:(N.bo i).queue.drop k=(N.bo i).queue[k]::(N.bo i).queue.drop (k+1):=hdr
   generalize (N.bo i).queue[k]=s at *
   obtain ⟨fb,f1,f2,f3⟩:=hfk
   have hmu:=Int.mul_nonneg fb.hz.1 fb.hp.1
   have hmu2:(S.N.pa s.1).g.size*(S.N.bo i).b.price<=1000*1000:=Int.mul_le_mul fb.hz.2 fb.hp.2 fb.hp.1 (by omega)
   obtain ⟨hz1,hz2⟩:=fb.hz
   obtain ⟨hs1,hs2⟩:=fb.hs
   obtain ⟨hu1,hu2⟩:=fb.hu
   obtain ⟨ht1,ht2⟩:=fb.ht
   obtain ⟨v4,hn4⟩:=hτ.nblk Ay.two
   have hp4:=hτ.pblk Ay.two fb.hg
   obtain ⟨o4,q4,hr4,_⟩:=hτ.rblk Ay.two hSi
   refine AG (Bu hn4 rfl (hSt.pix hst fb.g0 fb.hg (AG (Bh hp4 rfl (AG (Bh hr4 rfl (AS (by omega) (Ah fun J88 h88=>?_))))))))
   have k88:∀ t,t=S.bad i s->J88 t τ:=by
    rintro t rfl
    rw [h88]
    intro _
    refine C4 (fun hbad=>?_) (fun hbad=>?_)
    ·obtain ⟨d1,d2⟩:=f1 hbad
     refine VP Ay.two hSq hst hτ d1 fun v s9 h9=>?_
     obtain ⟨s10,o10,hk10⟩:=h9.away
     have hal:=fb.ha
     refine CH o10 (AY (by show S.away.length+1<=_;omega) ?_)
     intro A94 l94 c94 s95 o95
     refine k62 A l c A94 l94 c94 (S.out s) s95 d2 ?_ (Ngt.done_stat hst _ _) (hk10 ⟨A94,l94,c94⟩ _ _ o95)
     rw [← hfs,Cb,if_pos hbad]
    ·refine Ah fun J98 h98=>?_
     have k98:∀ t,t=(S.full s && !(S.N.bo i).b.fill)->J98 t τ:=by
      rintro t rfl
      rw [h98]
      intro _
      have hst':=fb.hst
      refine C4 (fun hx=>?_) (fun hx=>?_)
      ·rw [Bool.and_eq_true,Bool.not_eq_true'] at hx
       obtain ⟨s10,o10,hk10⟩:=hτ.stay
       refine ⟨by omega,by omega,CH o10 ⟨(N.bo i).queue.drop k,?_,AY (by show S.stay.length+((N.bo i).queue.drop k).length<=_;rw [hdl,List.length_cons];omega) ?_⟩⟩
       ·simp only [Int.toNat_natCast]
        have hsub10:Hp.Sub sq s10:=by
         obtain ⟨s11,y1,s12,y2,y3⟩:=hk10 ⟨none,0,0⟩ [] s10 (Ak.nil ..)
         exact y1.sub.trans (y2.sub.trans y3.sub)
        have hrq':=hrq.sub hsub10
        refine ⟨by show _=((N.bo i).queue.drop k).length;rw [hrest];omega,?_⟩
        rcases hrq'.2 with h0 | ⟨b,off,cells,e,f,rw',hA,hbb,hrow⟩
        ·omega
        ·rw [if_neg (by omega),hA]
         refine .inr ⟨b,off+k*sQ.length,cells,e,f,rw',?_,hbb,hrow.drop k⟩
         show some (Addr.add ⟨b,off,none⟩ (k*2))=_
         rw [Du]
         rfl
       ·intro A103 l103 c103 s104 o104
        have e5:N.fl i={ S with stay:=S.stay++(N.bo i).queue.drop k }:=by
         rw [← hfs,Cb,if_neg (by rw [hbad];simp),if_pos hx.1,if_neg (by rw [hx.2];simp),← hdl]
        refine k21 _ _ _ _ _ _ _ (by rw [e5];exact hst) (by rw [e5];exact hSi) ?_
        rw [e5]
        exact hk10 ⟨A103,l103,c103⟩ _ _ o104
      ·refine AG (Bh hp4 rfl (AF (fun hfu=>?_) (fun hfu=>?_)))
       ·have hfull:S.full s=true:=decide_eq_true hfu
        have hfill:(S.N.bo i).b.fill=true:=by rw [hfull] at hx;simpa using hx
        have d2:=f2 hbad hfull hfill
        obtain ⟨s10,o10,hk10⟩:=hτ.stay
        refine CH o10 (AY (by show S.stay.length+1<=_;omega) ?_)
        intro A110 l110 c110 s111 o111
        refine k62 A110 l110 c110 A' l' c' (S.keep s) s111 d2 ?_ hst (hk10 ⟨A110,l110,c110⟩ _ _ o111)
        rw [← hfs,Cb,if_neg (by rw [hbad];simp),if_pos hfull,if_pos hfill]
       ·have hfull:S.full s=false:=decide_eq_false hfu
        obtain ⟨d1,d2⟩:=f3 hbad hfull
        refine AG (Bh hp4 rfl (AS (by omega) (AG (Bh hp4 rfl (AS (by omega) (AG ?_))))))
        obtain ⟨x1,x2⟩:=hτ.stP Ay.two fb.hg (k:=6) (v:=aD ((S.N.pa s.1).purse-(S.N.pa s.1).g.size*(S.N.bo i).b.price)) (p':={ S.N.pa s.1 with purse:=(S.N.pa s.1).purse-S.N.cost i s }) (by omega) rfl
        refine ⟨x1,?_⟩
        have hst1:(S.N.pays i s).stat nr G:=hst.setP rfl
        change Br W _ sq _ (S.N.pays i s) at x2
        have hSi1:i.toNat<(S.N.pays i s).rides.length:=hSi
        obtain ⟨o5,q5,hr5,_⟩:=x2.rblk Ay.two hSi1
        refine AG (Bh hr5 rfl (AS (by show _<=(S.N.bo i).takes+_/\(S.N.bo i).takes+_<=_;omega) (AG ?_)))
        obtain ⟨y1,y2⟩:=x2.stR Ay.two hSi1 (k:=9) (v:=aD ((S.N.bo i).takes+(S.N.pa s.1).g.size*(S.N.bo i).b.price)) (r':={ S.N.bo i with takes:=(S.N.bo i).takes+S.N.cost i s }) (by omega) rfl rfl fun _ _=>rfl
        refine ⟨y1,?_⟩
        have hSi2:i.toNat<((S.N.pays i s).setR i { S.N.bo i with takes:=(S.N.bo i).takes+S.N.cost i s }).rides.length:=by show _<(List.set _ _ _).length;rw [List.length_set];exact hSi
        obtain ⟨o6,q6,s12,hr6,o12,hk12⟩:=y2.ons Ay.two hSi2
        have hb6:((S.N.pays i s).setR i { S.N.bo i with takes:=(S.N.bo i).takes+S.N.cost i s }).bo i={ S.N.bo i with takes:=(S.N.bo i).takes+S.N.cost i s }:=by rw [Ngt.bo_setR hSi1,if_pos rfl]
        have hol:=fb.ho
        refine AG (Bu hr6 rfl (CH o12 (AY (by rw [hb6];show (S.N.bo i).on.length+1<=_;omega) (AG ?_))))
        intro A137 l137 c137 s138 o138
        obtain ⟨z1,z2⟩:=hk12 _ ⟨A137,l137,c137⟩ _ o138
        refine ⟨z1,?_⟩
        rw [hb6,Ngt.setR_setR] at z2
        have eg:(S.N.pays i s).setR i { S.N.bo i with takes:=(S.N.bo i).takes+S.N.cost i s,on:=(S.N.bo i).on++[s.1] }=S.N.gets i s:=rfl
        change Br W _ sq _ (S.N.gets i s) at z2
        have hst2:(S.N.gets i s).stat nr G:=hst1.setR
        refine VP Ay.two hSq hst2 z2 d1 fun v s9 h9=>?_
        refine k62 A l c A' l' c' (S.ride i s) s9 d2 ?_ (Ngt.done_stat hst2 _ _) h9
        rw [← hfs,Cb,if_neg (by rw [hbad];simp),if_neg (by rw [hfull];simp)]
     refine AG (Bh hp4 rfl (AF (fun hfu=>AG (AbI hr4 rfl (k98 _ ?_))) (fun hfu=>k98 _ ?_)))
     ·rw [Fl.full,decide_eq_true hfu,Bool.true_and]
     ·rw [Fl.full,decide_eq_false hfu,Bool.false_and]
   refine AG (Bh hp4 rfl (AG (Bh hr4 rfl (AF (fun hlt2=>k88 _ ?_) (fun hlt2=>AG (Bh hp4 rfl (k88 _ ?_)))))))
   ·rw [Fl.bad,decide_eq_true hlt2,Bool.true_or]
   ·rw [Fl.bad,decide_eq_false hlt2,Bool.false_or]
    rfl
  ·have:k=(N.bo i).queue.length:=by omega
   subst this
   rw [List.drop_length,Cb] at hfs
   refine k21 _ _ _ _ _ _ _ (by rw [← hfs];exact hst) (by rw [← hfs];exact hSi) ?_
   rw [← hfs]
   exact hτ
 have k159:∀ t,t=N.shut i->J159 t σ:=by
  rintro t rfl
  rw [h159]
  intro _
  refine C4 (fun hsh=>Al ⟨rfl,?_⟩) (fun hsh=>k9 hsh)
  rw [Ngt.begin,if_pos hsh]
  exact h
 have hqe:decide ((q.n:Int)=0)=decide ((N.bo i).queue.length=0):=by rw [hql'];exact decide_eq_decide.2 (by omega)
 refine AG (Bu hrb rfl (AF (fun h0=>k159 _ ?_) (fun h0=>AG (Bh hrb rfl (AF (fun h1=>?_) (fun h1=>AG (Bu hrb rfl (k159 _ ?_))))))))
 ·unfold Ngt.shut
  rw [decide_eq_true (show 0<(N.bo i).on.length by omega),Bool.true_or]
 ·refine AG (Bh hnb rfl (AG (Bh hrb rfl (AS (by omega) (AG (Bh hrb rfl (AF (fun h2=>k159 _ ?_) (fun h2=>AG (Bu hrb rfl (k159 _ ?_))))))))))
  ·unfold Ngt.shut
   rw [decide_eq_false (show ¬ 0<(N.bo i).on.length by omega),decide_eq_true h1,decide_eq_true h2]
   rfl
  ·unfold Ngt.shut
   rw [decide_eq_false (show ¬ 0<(N.bo i).on.length by omega),decide_eq_true h1,decide_eq_false h2,hqe]
   simp
 ·unfold Ngt.shut
  rw [decide_eq_false (show ¬ 0<(N.bo i).on.length by omega),decide_eq_false h1,hqe]
  simp
end
end Go.Proofs.YtoelhdjloaknbaaGreat
