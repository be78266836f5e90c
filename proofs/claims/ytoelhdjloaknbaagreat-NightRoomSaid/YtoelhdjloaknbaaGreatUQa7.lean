/- What this claim rests on. -/
import Derived.Test.YtoelhdjloaknbaaGreatUQs1
namespace Go.Proofs.YtoelhdjloaknbaaGreat
open Go.RowKit Go.Proofs.Tryz
def Ngt.guests (N:Ngt) (q:List (Int×Int)):Int:=CO (q.map fun s=>(N.pa s.1).g.size)
def Ngt.line1 (N:Ngt) (r:Bth):Bth:={ r with line:=if r.line<N.guests r.queue then N.guests r.queue else r.line }
def Ngt.lineK (N:Ngt) (k:Nat):Ngt:={ N with rides:=(N.rides.take k).map N.line1++N.rides.drop k }
def Ngt.begins (N:Ngt) (k:Nat):Ngt:=(List.range k).foldl (fun (M:Ngt) (i:Nat)=>M.begin i) N
def Ngt.rest (N:Ngt):Ngt:=N.end_.come.leave
def Ngt.tick1 (N:Ngt):Ngt:=((N.rest.begins N.rest.rides.length).lineK N.rest.rides.length).setT (N.tick+1)
def Ngt.init (w:Int) (B:List BthG) (G:List Grp):Ngt:=⟨w,B.map fun b=>⟨b,[],0,-1,[],0,0⟩,G.map fun g=>⟨g,0,g.tokens,-1,-1⟩,0,[]⟩
def Ngt.run (w:Int) (B:List BthG) (G:List Grp):Nat->Ngt
 | 0=>Ngt.init w B G
 | k+1=>(Ngt.run w B G k).tick1
def Ngt.last (N:Ngt):Ngt:=N.setV (Xj N.visits)
def Ngt.played (w:Int) (B:List BthG) (G:List Grp):Ngt:=(Ngt.run w B G 4001).last
theorem Ngt.lineK_zero (N:Ngt):N.lineK 0=N:=by simp [Ngt.lineK]
theorem Ngt.lineK_len (N:Ngt) (k:Nat):(N.lineK k).rides.length=N.rides.length:=by simp [Ngt.lineK];omega
theorem Ngt.lineK_bo (N:Ngt) (k:Nat):(N.lineK k).bo k=N.bo k:=by
 by_cases h:k<N.rides.length
 ·simp [Ngt.lineK,Ngt.bo,List.getD,h,Nat.le_of_lt h]
 ·have h':N.rides.length<=k:=by omega
  simp [Ngt.lineK,Ngt.bo,List.getD,h']
theorem Ngt.lineK_succ (N:Ngt) {k:Nat} (h:k<N.rides.length):N.lineK (k+1)=(N.lineK k).setR k (N.line1 (N.bo k)):=by
 unfold Ngt.lineK Ngt.setR
 congr 1
 simp only [Int.toNat_natCast]
 have e:(N.bo k)=N.rides[k]:=by simp [Ngt.bo,List.getD,h]
 rw [e,List.take_succ_eq_append_getElem h,List.map_append,List.append_assoc,List.set_append_right _ _ (by simp;omega)]
 congr 1
 have:k-(List.map N.line1 (List.take k N.rides)).length=0:=by simp;omega
 rw [this,List.drop_eq_getElem_cons h]
 rfl
structure YM (N:Ngt):Prop where
 on:∀ i,(N.bo i).on.length<=1000000
 b:∀ i,-1000000<=(N.bo i).begun+(N.bo i).b.cycle/\(N.bo i).begun+(N.bo i).b.cycle<=1000000
 ok:∀ k,(hk:k<N.off.length)->((N.off.take k).foldl Ngt.next (N.endK N.rides.length)).Nxt N.off[k]
structure U2 (N:Ngt):Prop where
 A:∀ k,k<N.parties.length->(((List.range k).foldl Ngt.comeA N).pa k).g.came=((List.range k).foldl Ngt.comeA N).tick->((List.range k).foldl Ngt.comeA N).Nxt k
 B:∀ k,k<N.parties.length->(((List.range k).foldl Ngt.comeB ((List.range N.parties.length).foldl Ngt.comeA N)).pa k).comes=((List.range k).foldl Ngt.comeB ((List.range N.parties.length).foldl Ngt.comeA N)).tick->((List.range k).foldl Ngt.comeB ((List.range N.parties.length).foldl Ngt.comeA N)).Arr k
structure SD (N:Ngt):Prop where
 ql:∀ i,(N.bo i).queue.length<=1000000
 qs:∀ i,∀ s∈(N.bo i).queue,0<=s.1/\s.1.toNat<N.parties.length/\-1000000<=s.2/\s.2<=1000000
 t:0<=N.tick/\N.tick<=5000
 nd:((N.goneK N.rides.length).map Prod.fst).Nodup
 ok:∀ k,(hk:k<N.gone.length)->((N.gone.take k).foldl Ngt.quit (N.leaveK N.rides.length)).Dne N.gone[k].1/\(((N.gone.take k).foldl Ngt.quit (N.leaveK N.rides.length)).done N.gone[k] false).Nxt N.gone[k].1
structure Vn (N:Ngt) (i:Int):Prop where
 b:-1000000<=(N.bo i).ended/\(N.bo i).ended<=1000000
 t:0<=N.tick/\N.tick<=5000
 f:N.shut i=false->KD i (N.bo i).queue (N.fl0 i)
 ql:(N.bo i).queue.length<=1000000
 al:(N.fl i).away.length<=1000000
 ok:N.shut i=false->∀ k,(hk:k<(N.fl i).away.length)->(((N.fl i).away.take k).foldl Ngt.next ((N.fl i).back i)).Nxt (N.fl i).away[k]
structure AaH (N:Ngt):Prop where
 ql:∀ i,(N.bo i).queue.length<=1000
 qs:∀ i,∀ s∈(N.bo i).queue,0<=s.1/\s.1.toNat<N.parties.length/\0<=(N.pa s.1).g.size/\(N.pa s.1).g.size<=1000
structure UV (N:Ngt):Prop where
 t:0<=N.tick/\N.tick<=4000
 e:YM N
 c:U2 N.end_
 l:SD N.end_.come
 b:∀ k,k<N.rest.rides.length->Vn (N.rest.begins k) k
 n:AaH (N.rest.begins N.rest.rides.length)
 bt:(N.rest.begins N.rest.rides.length).tick=N.tick
structure Yu (vs:List Vis):Prop where
 l:vs.length<=4294967296
 b:∀ v∈vs,(0<=v.left/\v.left<=1000000)/\(0<=v.1/\v.1<=1000000)/\(0<=v.2.1/\v.2.1<=1000000)
 u:∀ x∈vs,∀ y∈vs,x.1=y.1->x.2.1=y.2.1->x=y
theorem Ngt.fillS_stat {nr:Nat} {G:List Grp} {i:Int}:∀ (q:List (Int×Int)) (S:Fl),S.N.stat nr G->(Cb i q S).N.stat nr G
 | [],_,h=>h
 | s::q,S,h=>by
  unfold Cb
  split
  ·exact fillS_stat q _ (Ngt.done_stat h _ _)
  ·split
   ·split
    ·exact fillS_stat q _ h
    ·exact h
   ·refine fillS_stat q _ (Ngt.done_stat (N:=S.N.gets i s) ?_ _ _)
    exact Ngt.stat.setR (N:=S.N.pays i s) (h.setP rfl)
theorem Ngt.begin_stat {N:Ngt} {nr:Nat} {G:List Grp} (h:N.stat nr G) (i:Int):(N.begin i).stat nr G:=by
 unfold Ngt.begin
 split
 ·exact h
 ·have h1:(N.fl i).N.stat nr G:=Ngt.fillS_stat _ _ (Ngt.stat.setR (N:=N) h)
  have h2:(N.gone1 i).stat nr G:=BG (fun N g h=>N.next_stat h g) _ _ (Ngt.stat.setR (N:=(N.fl i).N) h1)
  unfold Ngt.start
  split
  ·exact h2.setR
  ·exact h2
theorem Ngt.endK_stat {N:Ngt} {nr:Nat} {G:List Grp} (h:N.stat nr G) (k:Nat):(N.endK k).stat nr G:=⟨by rw [N.endK_len];exact h.1,h.2⟩
theorem Ngt.end_stat {N:Ngt} {nr:Nat} {G:List Grp} (h:N.stat nr G):N.end_.stat nr G:=BG (fun N g h=>N.next_stat h g) _ _ (Ngt.endK_stat h _)
theorem Ngt.come_stat {N:Ngt} {nr:Nat} {G:List Grp} (h:N.stat nr G):N.come.stat nr G:=BG (fun N g h=>N.comeB_stat h g) _ _ (BG (fun N g h=>N.comeA_stat h g) _ _ h)
theorem Ngt.leave_stat {N:Ngt} {nr:Nat} {G:List Grp} (h:N.stat nr G):N.leave.stat nr G:=
 BG (fun N s h=>Ngt.next_stat (Ngt.done_stat h _ _) _) _ _ ⟨by rw [N.leaveK_len];exact h.1,h.2⟩
theorem Ngt.rest_stat {N:Ngt} {nr:Nat} {G:List Grp} (h:N.stat nr G):N.rest.stat nr G:=Ngt.leave_stat (Ngt.come_stat (Ngt.end_stat h))
theorem Ngt.begins_stat {N:Ngt} {nr:Nat} {G:List Grp} (h:N.stat nr G) (k:Nat):(N.begins k).stat nr G:=BG (fun _ (i:Nat) h=>Ngt.begin_stat h i) _ _ h
theorem Ngt.lineK_stat {N:Ngt} {nr:Nat} {G:List Grp} (h:N.stat nr G) (k:Nat):(N.lineK k).stat nr G:=⟨by rw [N.lineK_len];exact h.1,h.2⟩
theorem Ngt.setT_stat {N:Ngt} {nr:Nat} {G:List Grp} (h:N.stat nr G) (t:Int):(N.setT t).stat nr G:=h
theorem Ngt.tick1_stat {N:Ngt} {nr:Nat} {G:List Grp} (h:N.stat nr G):N.tick1.stat nr G:=by
 unfold Ngt.tick1
 exact Ngt.setT_stat (Ngt.lineK_stat (Ngt.begins_stat (Ngt.rest_stat h) _) _) _
theorem Ngt.init_stat {w:Int} {B:List BthG} {G:List Grp}:(Ngt.init w B G).stat B.length G:=by
 refine ⟨List.length_map ..,?_⟩
 show (G.map fun g=>(⟨g,0,g.tokens,-1,-1⟩:Pty)).map Pty.g=G
 rw [List.map_map]
 exact List.map_id _
theorem Ngt.run_stat {w:Int} {B:List BthG} {G:List Grp}:∀ k,(Ngt.run w B G k).stat B.length G
 | 0=>Ngt.init_stat
 | k+1=>Ngt.tick1_stat (Ngt.run_stat k)
abbrev sB:List Sh:=[.int .i64,.int .i64,.int .i64,.int .i64,.bool]
abbrev sG:List Sh:=[.int .i64,.int .i64,.int .i64,.slc,.int .i64]
def Kv (b:BthG):TyR sB:=(b.seats,b.price,b.cycle,b.pause,b.fill)
def Fh (ws:Nat->SL) (i:Nat) (g:Grp):TyR sG:=(g.came,g.size,g.tokens,((ws i).A,(ws i).n,(ws i).c),g.patience)
structure EvR (σ:Hp) (r:SL) (B:List BthG) (l:SL) (ws:Nat->SL) (G:List Grp):Prop where
 r:RdS sB σ r.A r.n (B.map Kv)
 l:RdS sG σ l.A l.n (G.mapIdx (Fh ws))
 w:∀ i,(h:i<G.length)->RdS aM σ (ws i).A (ws i).n G[i].wants
theorem EvR.sub {σ σ':Hp} {r l:SL} {B:List BthG} {ws:Nat->SL} {G:List Grp} (h:EvR σ r B l ws G) (hs:Hp.Sub σ σ'):EvR σ' r B l ws G:=⟨h.r.sub hs,h.l.sub hs,fun i hi=>(h.w i hi).sub hs⟩
theorem EvR.lenR {σ:Hp} {r l:SL} {B:List BthG} {ws:Nat->SL} {G:List Grp} (h:EvR σ r B l ws G):r.n=B.length:=by rw [h.r.1];exact List.length_map ..
theorem EvR.lenL {σ:Hp} {r l:SL} {B:List BthG} {ws:Nat->SL} {G:List Grp} (h:EvR σ r B l ws G):l.n=G.length:=by rw [h.l.1];exact List.length_mapIdx ..
theorem EvR.ride {σ:Hp} {r l:SL} {B:List BthG} {ws:Nat->SL} {G:List Grp} (h:EvR σ r B l ws G) {k:Nat} (hk:k<B.length) {K:Nat->Nat->Prop}
  (hK:∀ b o,σ.cell? ⟨b,o,none⟩=some (aD B[k].seats)->σ.cell? ⟨b,o+1,none⟩=some (aD B[k].price)->σ.cell? ⟨b,o+2,none⟩=some (aD B[k].cycle)->σ.cell? ⟨b,o+3,none⟩=some (aD B[k].pause)->σ.cell? ⟨b,o+4,none⟩=some (.bool B[k].fill)->K b o):ix r.A r.n k 5 K:=by
 have hk':(k:Int).toNat<(B.map Kv).length:=by simpa using hk
 refine Eg h.r rfl (by omega) hk' fun b o hc=>?_
 have e:(B.map Kv)[(k:Int).toNat]'hk'=Kv B[k]:=by simp
 rw [e] at hc
 exact hK b o (hc 0 (by show 0<5;omega)) (hc 1 (by show 1<5;omega)) (hc 2 (by show 2<5;omega)) (hc 3 (by show 3<5;omega)) (hc 4 (by show 4<5;omega))
theorem EvR.group {σ:Hp} {r l:SL} {B:List BthG} {ws:Nat->SL} {G:List Grp} (h:EvR σ r B l ws G) {k:Nat} (hk:k<G.length) {K:Nat->Nat->Prop}
  (hK:∀ b o,σ.cell? ⟨b,o,none⟩=some (aD G[k].came)->σ.cell? ⟨b,o+1,none⟩=some (aD G[k].size)->σ.cell? ⟨b,o+2,none⟩=some (aD G[k].tokens)->σ.cell? ⟨b,o+3,none⟩=some (ws k).v->σ.cell? ⟨b,o+4,none⟩=some (aD G[k].patience)->K b o):ix l.A l.n k 5 K:=by
 have hk':(k:Int).toNat<(G.mapIdx (Fh ws)).length:=by simpa using hk
 refine Eg h.l rfl (by omega) hk' fun b o hc=>?_
 have e:(G.mapIdx (Fh ws))[(k:Int).toNat]'hk'=Fh ws k G[k]:=by simp
 rw [e] at hc
 exact hK b o (hc 0 (by show 0<5;omega)) (hc 1 (by show 1<5;omega)) (hc 2 (by show 2<5;omega)) (hc 3 (by show 3<5;omega)) (hc 4 (by show 4<5;omega))
def Aby (σ:Hp) (nr:Nat) (G:List Grp) (N:Ngt):aB:=fun v σ'=>∃ (W:NW) (s1:Hp),v=.pointer (some ⟨W.nb,0,none⟩)/\Hp.Sub σ s1/\NSt W s1 nr G/\Ar W s1 σ' N
section
variable {σ:Hp} {rs ps:List Nat}
def bpL (rs:List Nat) (bs:List Bth):List Rel:=(List.range bs.length).map fun i=>GR (rs.getD i 0) (bs.getD i Bth.d)
def ppL (ps:List Nat) (ws:Nat->SL) (gs:List Pty):List Rel:=(List.range gs.length).map fun i=>GG (ps.getD i 0) (ws i) (gs.getD i Pty.d)
theorem YO {rs:List Nat} {bs:List Bth} {b:Nat} {r:Bth} (h:rs.length=bs.length):bpL (rs++[b]) (bs++[r])=bpL rs bs++[GR b r]:=by
 unfold bpL
 rw [List.length_append,List.length_singleton,List.range_succ,List.map_append]
 congr 1
 ·apply List.map_congr_left
  intro i hi
  have hi:=List.mem_range.1 hi
  simp [List.getD,List.getElem?_append_left,hi,h]
 ·have:(rs++[b]).getD bs.length 0=b:=by rw [← h];simp
  simp
  rw [← h]
  simp
theorem Xx {ps:List Nat} {ws:Nat->SL} {gs:List Pty} {b:Nat} {p:Pty} (h:ps.length=gs.length):ppL (ps++[b]) ws (gs++[p])=ppL ps ws gs++[GG b (ws gs.length) p]:=by
 unfold ppL
 rw [List.length_append,List.length_singleton,List.range_succ,List.map_append]
 congr 1
 ·apply List.map_congr_left
  intro i hi
  have hi:=List.mem_range.1 hi
  simp [List.getD,List.getElem?_append_left,hi,h]
 ·simp
  rw [← h]
  simp
theorem Qp {rs:List Nat} {bs:List Bth}:∀ R∈bpL rs bs,Ay R:=by
 intro R hR
 obtain ⟨i,_,rfl⟩:=List.mem_map.1 hR
 exact Ay.booth
theorem XV {ps:List Nat} {ws:Nat->SL} {gs:List Pty}:∀ R∈ppL ps ws gs,Ay R:=by
 intro R hR
 obtain ⟨i,_,rfl⟩:=List.mem_map.1 hR
 exact Ay.party
theorem Ll {rs ps:List Nat} {bs:List Bth} {ws:Nat->SL} {gs:List Pty}:∀ R∈bpL rs bs++ppL ps ws gs,Ay R:=by
 intro R hR
 rcases List.mem_append.1 hR with hR | hR
 ·exact Qp R hR
 ·exact XV R hR
theorem Lse.snoc {rs:List Rel} {R:Rel} {σ s1 σ2:Hp} (hp:∀ R∈rs,Ay R) (hR:Ay R) (h:Lse (CI rs) σ s1) (h':R s1 σ2):Lse (CI (rs++[R])) σ σ2:=by
 obtain ⟨s3,h1,h2⟩:=h
 obtain ⟨s4,h3,h4⟩:=hR.less h' h2
 exact ⟨s4,WR hp hR h1 h3,h4⟩
end
theorem Ar.turn {W:NW} {s0 σ:Hp} {N:Ngt} (h:Ar W s0 σ N):∃ (v:SL) (s1:Hp),σ W.nb=some (.cells (Je W N v) 186 (0,0),true)/\Ak 75 sV s1 v.A v.n v.c N.visits σ /\
  ∀ (vs:List Vis) (σ2:Hp),Ak 75 sV s1 v.A v.n v.c vs σ2->Ar W s0 σ2 (N.setV vs):=by
 obtain ⟨s1,⟨v,σ2,h1,h2⟩,h3⟩:=h.core
 exact ⟨v,σ2,h2.sub _ _ h1.get,h2,fun vs s4 h4=>h3 (N.setV vs) _ _ rfl rfl ⟨v,σ2,h1,h4⟩ (Hp.Sub.refl _)⟩
section
variable {W:NW} {s0 σ:Hp} {N:Ngt} {nr:Nat} {G:List Grp}
theorem Abu (hS:NSt W s0 nr G) (hN:N.stat nr G) (h:Ar W s0 σ N) (hr:nr<=1000) (hok:YM N) {K:aB} (hk:∀ v σ',Ar W s0 σ' N.end_->K v σ'):aC 166 #[.pointer (some ⟨W.nb,0,none⟩)] σ K:=
 AW (aV 166) (Abs KQ hS hN h hr hok.on hok.b hok.ok) fun v σ' h=>hk v σ' h.2
theorem AaU (hS:NSt W s0 nr G) (hN:N.stat nr G) (h:Ar W s0 σ N) (hg:G.length<=1000) (hok:U2 N) {K:aB} (hk:∀ v σ',Ar W s0 σ' N.come->K v σ'):aC 167 #[.pointer (some ⟨W.nb,0,none⟩)] σ K:=
 AW (aV 167) (AaB hS hN h (by rw [hN.len];exact hg) hok.A hok.B) fun v σ' h=>hk v σ' h.2
theorem ZN (hS:NSt W s0 nr G) (hN:N.stat nr G) (h:Ar W s0 σ N) (hr:nr<=1000) (hg:G.length<=1000) (hok:SD N) {K:aB} (hk:∀ v σ',Ar W s0 σ' N.leave->K v σ'):aC 168 #[.pointer (some ⟨W.nb,0,none⟩)] σ K:=
 AW (aV 168) (ZL Tc hS hN h hr hok.ql hok.qs (by rw [hN.len];omega) hok.t hok.nd hok.ok) fun v σ' h=>hk v σ' h.2
theorem ZP (hS:NSt W s0 nr G) (hN:N.stat nr G) (h:Ar W s0 σ N) {i:Int} (i0:0<=i) (hi:i.toNat<N.rides.length) (hok:Vn N i) {K:aB} (hk:∀ v σ',Ar W s0 σ' (N.begin i)->K v σ'):aC 169 #[.pointer (some ⟨W.nb,0,none⟩),aD i] σ K:=
 AW (aV 169) (Zl hS hN h i0 hi hok.b hok.t hok.f hok.ql hok.al hok.ok) fun v σ' h=>hk v σ' h.2
end
theorem SE {xs:List Int} {m:Int} (h:∀ x∈xs,0<=x/\x<=m):0<=CO xs/\CO xs<=m*xs.length:=by
 induction xs with
 | nil=>simp [CO]
 | cons x xs ih=>
  obtain ⟨h1,h2⟩:=ih fun y hy=>h y (List.mem_cons_of_mem _ hy)
  have h3:=h x (List.mem_cons_self ..)
  simp only [CO,List.length_cons]
  have:m*((xs.length+1:Nat):Int)=m*(xs.length:Int)+m:=by
   rw [show ((xs.length+1:Nat):Int)=(xs.length:Int)+1 by omega,Int.mul_add]
   omega
  omega
end Go.Proofs.YtoelhdjloaknbaaGreat
