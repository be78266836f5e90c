/- Trimmed by wip/trim.py to what this claim rests on. -/
import Derived.Test.YthhadkggldcolaaGreatVNa5
namespace Go.Proofs.YthhadkggldcolaaGreat
set_option maxRecDepth 100000
open Go.RowKit
def Bok.why (b:Bok) (es:List Ent) (ride day:Int):List Int:=
 (((if b.ckd es ride b.R.length<day then [1] else [])++(if Jt es ride then [] else [2]))++(if lst (tsP ride) ride es=day then [] else [3]))++(if b.ins es ride<day then [4] else [])
def Bok.rel (b:Bok) (es:List Ent) (day:Int):List Int:=((List.range b.I.length).filter fun i:Nat=>decide ((b.why es (i:Nat) day).length=0)).map fun i:Nat=>(i:Int)
def Ou (b:Bok) (es:List Ent) (day:Int) (k:Nat):List Int:=((List.range k).filter fun i:Nat=>decide ((b.why es (i:Nat) day).length=0)).map fun i:Nat=>(i:Int)
theorem UF {b:Bok} {es:List Ent} {day:Int} {k:Nat}:Ou b es day (k+1)=if (b.why es (k:Nat) day).length=0 then Ou b es day k++[(k:Int)] else Ou b es day k:=by
 unfold Ou
 rw [List.range_succ,List.filter_append,List.map_append]
 by_cases h:(b.why es (k:Nat) day).length=0
 ·rw [if_pos h,List.filter_cons_of_pos (by simpa using h)];rfl
 ·rw [if_neg h,List.filter_cons_of_neg (by simpa using h)];simp
theorem TI (b:Bok) (es:List Ent) (day:Int) (k:Nat):(Ou b es day k).length<=k:=by
 unfold Ou
 rw [List.length_map]
 exact Nat.le_trans (List.length_filter_le _ _) (by simp)
def Bok.relD (b:Bok) (es:List Ent) (day:Int):List Int:=if b.dayE es day=0 then b.rel (Bok.upE es day) day else []
def Qv (b1:Nat) (xs:List Int):Rel:=fun σ τ=>∃ s:SL,((Blk b1 (.cells #[s.v] 26 (0,0))).seq fun σ' τ'=>Ai 3 [.int .i64] σ' s.A s.n s.c xs τ') σ τ
theorem Qv.port {b1:Nat} {xs:List Int}:Ar (Qv b1 xs):=Ar.ex fun _=>Ar.blk.seq Ar.own
section
variable {σ:Hp} {w:BkW} {E:SL} {b:Bok} {es:List Ent}
theorem Aah {ride:Int} (h:LgR σ w E b es) (hl:es.length<=4294967296) (hr:0<=ride/\ride<b.I.length):
  Af Tryz.prog Lz #[lgV w E,.int .i64 ride] σ fun v σ'=>v=.int .i64 (b.ins es ride)/\σ'=σ:=by
 refine IU _ _ _ _ _ _ _ _ _ _ _ _ _ _ _ ?_
 unfold C8
 refine Ad fun J3 h3=>?_
 refine Be DW AbY ?_
 rintro v σ12 ⟨bb,rfl,hbb⟩
 refine ⟨_,rfl,?_⟩
 intro b14 n14 b18 n18 lb Rec nlb hcall
 have hB0:Bxs [(bb,lgO w E),(b14,.cells #[.int .i64 ride] 3),(b18,.cells #[.int .i64 0] 3),(lb,Rec .ready none)] σ _:=⟨_,hbb,_,⟨n14,rfl⟩,_,⟨n18,rfl⟩,_,⟨nlb,rfl⟩,rfl⟩
 refine Yn.nf Dn (Af.mono (Xb (w:=w) (E:=E) (es:=es) (y:=.func (.yield lb) #[] #[]) (b:=bb)
  (I:=fun i τ=>(∀ j (h:j<es.length),j<i->MM ride (es[es.length-1-j]'(by omega))=none)/\Bxs [(bb,lgO w E),(b14,.cells #[.int .i64 ride] 3),(b18,.cells #[.int .i64 0] 3),(lb,Rec .ready none)] σ τ)
  (Q:=fun τ=>Bxs [(bb,lgO w E),(b14,.cells #[.int .i64 ride] 3),(b18,.cells #[.int .i64 (b.ins es ride)] 3),(lb,Rec .done (some .ret))] σ τ)
  rfl hl (fun i τ hh=>⟨hh.2.at (k:=0) rfl,h.e.sub hh.2.sub⟩) (fun i hi τ hh=>?_) ⟨fun j _ h=>absurd h (Nat.not_lt_zero _),hB0⟩) ?_)
 ·obtain ⟨hno,hB⟩:=hh
  have glb:=hB.at (k:=3) rfl
  refine hcall _ _ _ glb ⟨_,_,_,_,_,rfl,fun _=>⟨glb,?_⟩⟩
  have h3:Bxs [(bb,lgO w E),(b14,.cells #[.int .i64 ride] 3),(b18,.cells #[.int .i64 0] 3),(lb,Rec .busy none)] σ _:=hB.set (k:=3) rfl (Rec .busy none)
  generalize τ.ins lb (Rec .busy none)=τ9 at h3 ⊢
  have hlater:∀ j,(hj:j<es.length)->es.length-1-i<j->MM ride es[j]=none:=fun j hj h1=>by
   have:=hno (es.length-1-j) (by omega) (by omega)
   have e1:es.length-1-(es.length-1-j)=j:=by omega
   simp only [e1] at this
   exact this
  have hres:∀ a,MM ride (es[es.length-1-i]'(by omega))=some a->b.ins es ride=a:=fun a ha=>YM (by omega) ha hlater
  have hgo:MM ride (es[es.length-1-i]'(by omega))=none->∀ j (h:j<es.length),j<i+1->MM ride (es[es.length-1-j]'(by omega))=none:=fun hn j hj h1=>by
   rcases Nat.lt_or_ge j i with a | a
   ·exact hno j hj a
   ·obtain rfl:j=i:=by omega
    exact hn
  clear hno hlater
  generalize es[es.length-1-i]'(by omega)=x at *
  refine Ad fun J41 h41=>?_
  have k41:∀ t,t=decide (x.2.1=5/\x.2.2.1=ride)->J41 t τ9:=by
   rintro t rfl
   rw [h41]
   intro _
   refine AA (fun a=>h3.stv (k:=2) rfl (by decide) fun τ2 h4=>?_) (fun a=>⟨h3.at (k:=3) rfl,true,rfl,fun _=>⟨hgo ?_,h3.set (k:=3) rfl (Rec .ready none)⟩,fun e=>by cases e⟩)
   ·have h4:Bxs [(bb,lgO w E),(b14,.cells #[.int .i64 ride] 3),(b18,.cells #[.int .i64 x.2.2.2.1] 3),(lb,Rec .busy none)] σ τ2:=h4
    refine ⟨h4.at (k:=3) rfl,false,rfl,fun e=>(by cases e),fun _=>?_⟩
    rw [hres x.2.2.2.1 (by unfold MM;rw [if_pos a])]
    exact h4.set (k:=3) rfl (Rec .done (some .ret))
   ·unfold MM;rw [if_neg a]
  refine AA (fun a=>Bs (h3.at (k:=1) rfl) rfl (k41 _ ?_)) (fun a=>k41 _ ?_)
  ·simp [a]
  ·simp [a]
 ·rintro v τ (⟨hno,hB⟩ | hB)
  ·refine ⟨.ready,none,hB.at (k:=3) rfl,rfl,?_⟩
   have hB:=hB.set (k:=3) rfl (Rec .exhausted none)
   generalize τ.ins lb (Rec .exhausted none)=τ1 at hB ⊢
   show J3 _ _ _
   rw [h3]
   intro _
   refine AD (Bs (hB.at (k:=1) rfl) rfl (Cx (h.b.sub hB.sub).i hr.1 hr.2 (AD (hB.stv (k:=2) rfl (by decide) fun τ2 h4=>AD (Bs (h4.at (k:=2) rfl) rfl (BM h4.sub ⟨?_,rfl⟩))))))
   have:b.ins es ride=gt b.I ride:=Wp fun j hj=>by
    have:=hno (es.length-1-j) (by omega) (by omega)
    have e1:es.length-1-(es.length-1-j)=j:=by omega
    simp only [e1] at this
    exact this
   rw [this]
  ·refine ⟨.done,some .ret,hB.at (k:=3) rfl,rfl,?_⟩
   have hB:=hB.set (k:=3) rfl (Rec .exhausted (some .ret))
   generalize τ.ins lb (Rec .exhausted (some .ret))=τ1 at hB ⊢
   exact Bs (hB.at (k:=2) rfl) rfl (BM hB.sub ⟨rfl,rfl⟩)
theorem AeM {b1:Nat} {xs:List Int} {r:Int} {t:Bool} {τ:Hp} (hl:xs.length<=10) (h:Qv b1 xs σ τ):Af Tryz.prog Gr #[.int .i64 r,.bool t,.pointer (some ⟨b1,0,none⟩)] τ fun _ τ'=>Qv b1 (xs++if t then [r] else []) σ τ':=by
 refine KN _ _ _ _ _ ?_
 unfold DJ
 obtain ⟨s,σx,hB,ho⟩:=h
 refine BI (fun e=>AD (Bd (ho.sub _ _ hB.get) rfl (BR ho (Bb (by show xs.length+1<=_;omega) ?_)))) (fun e=>Ah ?_)
 ·subst e
  intro A n c σ7 ho7
  refine AD ⟨MB (ho7.sub _ _ hB.get) (Nat.zero_lt_one),?_⟩
  rw [FJ (ho7.sub _ _ hB.get)]
  exact Ah ⟨⟨A,n,c⟩,_,hB.again,Ar.own.again ho7 hB.get _⟩
 ·subst e
  rw [show (xs++if false=true then [r] else [])=xs by simp]
  exact ⟨s,σx,hB,ho⟩
theorem YX {b1:Nat} {xs:List Int} {r:Int} {t:Bool} {τ:Hp} {K:Hp->Prop} (hl:xs.length<=10) (h:Qv b1 xs σ τ) (hk:∀ τ',Qv b1 (xs++if t then [r] else []) σ τ'->K τ'):
  cl Tryz.prog (.func (.func Gr) #[] #[.pointer (some ⟨b1,0,none⟩)]) #[.int .i64 r,.bool t] τ fun _ τ'=>K τ':=
 Cy.mono (Cy.func HF (AeM hl h)) fun _ _ h=>hk _ h
theorem AeJ {ride day:Int} (h:LgR σ w E b es) (hb:b.ok=true) (he:OW es) (hr:0<=ride/\ride<b.I.length):
  Af Tryz.prog PF #[lgV w E,.int .i64 ride,.int .i64 day] σ (Aam 3 [.int .i64] σ (b.why es ride day)):=by
 refine MF _ _ _ _ _ _ _ _ _ _ _ _ _ _ _ _ ?_
 unfold E4
 have hn:=he.n
 intro b1 n1
 have hP:Qv b1 [] σ (σ.ins b1 (.cells #[.slice none 0 0] 26)):=⟨⟨none,0,0⟩,_,⟨n1,rfl⟩,Ai.nil ..⟩
 generalize σ.ins b1 (.cells #[.slice none 0 0] 26)=τ at hP ⊢
 refine clI GL (ZX (h.sub (Qv.port.sub hP)) hb he) ?_
 refine YX (by decide) hP fun τ1 hP1=>?_
 clear hP
 refine clB HH (AcJ (h.sub (Qv.port.sub hP1)) he) ?_
 refine YX (by rw [List.nil_append];split<;>decide) hP1 fun τ2 hP2=>?_
 clear hP1
 intro b13 n13
 obtain ⟨σ1,hb13,hP3⟩:=Ar.swap Qv.port Ar.blk hP2 (S:=Blk b13 (.cells #[.int .i64 ride] 3)) ⟨n13,rfl⟩
 generalize τ2.ins b13 (.cells #[.int .i64 ride] 3)=τ3 at hP3 ⊢
 have hg3:∀ {xs τ},Qv b1 xs σ1 τ->τ b13=some (.cells #[.int .i64 ride] 3,true):=fun hP=>Qv.port.sub hP _ _ hb13.get
 have hs1:=hb13.nin
 refine clI DQ (Abz (p:=tsP ride) (h.sub (hs1.trans (Qv.port.sub hP3))) (by omega) rfl fun τ hτ x _=>?_) ?_
 ·refine Cy.func HO (JG _ _ _ _ _ _ _ _ ?_)
  unfold DH
  refine AA (fun e=>AD (Bs (hτ _ _ (hg3 hP3)) rfl (Ah ⟨?_,rfl⟩))) (fun e=>Ah ⟨?_,rfl⟩)
  ·simp [tsP,e]
  ·simp [tsP,e]
 have hlen2:∀ (p q:Prop) [Decidable p] [Decidable q],((([]:List Int)++if p then [1] else [])++if q then [2] else []).length<=2:=by
  intro p q _ _
  by_cases hp:p<;>by_cases hq:q<;>simp [hp,hq]
 refine YX (Nat.le_trans (hlen2 _ _) (by decide)) hP3 fun τ4 hP4=>?_
 clear hP3
 refine Bs (hg3 hP4) rfl ?_
 refine clI GH (Aah (h.sub (hs1.trans (Qv.port.sub hP4))) (by omega) hr) ?_
 refine YX ?_ hP4 fun τ5 hP5=>?_
 ·rw [List.length_append]
  have:=hlen2 (decide (b.ckd es ride b.R.length<day)=true) ((!Jt es ride)=true)
  have h3:∀ (p:Prop) [Decidable p],(if p then [(3:Int)] else []).length<=1:=by
   intro p _
   by_cases hp:p<;>simp [hp]
  have:=h3 ((!decide (lst (tsP ride) ride es=day))=true)
  omega
 clear hP4
 obtain ⟨s,σx,hB,ho⟩:=hP5
 have hg:=ho.sub _ _ hB.get
 refine Bd hg rfl ⟨MB hg (Nat.zero_lt_one),?_⟩
 rw [FJ hg]
 have ho:=Ar.own.again ho hB.get (.cells #[s.v] 26 (0,0))
 have hB:=hB.again (o':=.cells #[s.v] 26 (0,0))
 refine Bd (ho.sub _ _ hB.get) rfl ?_
 obtain ⟨σz,h6,h7⟩:=Ar.own.less (R:=fun a c=>Ai 3 [.int .i64] a s.A s.n s.c _ c) ho (hs1.trans hB.nin)
 refine BM h7 ⟨s.A,s.n,s.c,rfl,?_⟩
 have e:b.why es ride day=((([]++if decide (b.ckd es ride b.R.length<day)=true then [1] else [])++if (!Jt es ride)=true then [2] else [])++if (!decide (lst (tsP ride) ride es=day))=true then [3] else [])++if decide (b.ins es ride<day)=true then [4] else []:=by
  unfold Bok.why
  rw [List.nil_append]
  congr 1
  ·congr 1
   ·congr 1
    ·by_cases hq:b.ckd es ride b.R.length<day<;>simp [hq]
    ·cases Jt es ride<;>rfl
   ·by_cases hq:lst (tsP ride) ride es=day<;>simp [hq]
  ·by_cases hq:b.ins es ride<day<;>simp [hq]
 rw [e]
 exact h6
def AaT (e:TypeId) (ss:List Sh) (σ:Hp) (xs:List (TyR ss)) (n:Int):Value->Hp->Prop:=fun v σ'=>∃ A k c,v=.tuple #[.slice A k c,.int .i64 n]/\Ai e ss σ A k c xs σ'
theorem XO {day:Int} (h:LgR σ w E b es):Af Tryz.prog Oz #[w.v,E.v,.int .i64 day] σ (AaT 3 [.int .i64] σ (b.relD es day) (b.dayE es day)):=by
 refine Lh _ _ _ _ _ _ _ _ _ _ _ _ _ _ _ ?_
 unfold D8
 refine Be JX (Acf h) ?_
 rintro v σ2 ⟨hs2,w',E',rfl,hh⟩
 refine ⟨_,_,_,_,_,_,_,_,_,_,_,_,_,rfl,Bu (fun e=>BM hs2 ⟨_,_,_,rfl,?_⟩) (fun e=>?_)⟩
 ·have e2:b.relD es day=[]:=if_neg e
  rw [e2];exact Ai.nil ..
 obtain ⟨rfl,hl⟩:=hh e
 obtain ⟨hc,hd⟩:=Bok.dayE0 e
 obtain ⟨hb,_⟩:=Bok.chk_ok hc
 have he:OW (Bok.upE es day):=(Bok.chk_es hc).take _
 have e2:b.relD es day=Ou b (Bok.upE es day) day b.I.length:=if_pos e
 rw [e2,e]
 have hin:=h.b.in
 have h10:=(Bok.ok_spec hb).2.2.1
 refine Ad fun J10 h10'=>?_
 refine ⟨fun m A n c i τ=>∃ k:Nat,m=b.I.length-k/\i=k/\k<=b.I.length/\Lse (fun a c'=>Ai 3 [.int .i64] a A n c (Ou b (Bok.upE es day) day k) c') σ2 τ,⟨_,0,rfl,rfl,by omega,⟨_,Ai.nil ..,Hp.Sub.refl _⟩⟩,?_⟩
 rintro m A n c i τ ⟨k,rfl,rfl,hk,ho⟩ _
 have hs:=Lse.sub Ar.own ho
 refine AA (fun hlt=>?_) (fun hlt=>?_)
 ·have hkl:k<b.I.length:=by omega
  refine Ad fun J20 h20=>?_
  have k20:∀ A n c τ',Lse (fun a c'=>Ai 3 [.int .i64] a A n c (Ou b (Bok.upE es day) day (k+1)) c') σ2 τ'->J20 A n c τ':=by
   intro A n c τ' ho'
   rw [h20]
   intro _
   exact AT (by omega) (A0 _ (by omega) ⟨k+1,rfl,by omega,by omega,ho'⟩)
  rw [UF] at k20
  refine Be Jg (AeJ (hl.sub hs) hb he (by omega)) ?_
  rintro v τ2 ⟨A2,n2,c2,rfl,ho2⟩
  have hn2:n2=(b.why (Bok.upE es day) (k:Nat) day).length:=ho2.len
  have ho3:=ho.up ho2.sub
  refine ⟨_,_,_,rfl,AA (fun e2=>?_) (fun e2=>k20 _ _ _ _ ?_)⟩
  ·rw [if_pos (by omega)] at k20
   obtain ⟨σ3,ho4,hs4⟩:=Lse.exact Ar.own ho3
   refine BR ho4 (Bb (by show (Ou b (Bok.upE es day) day k).length+1<=_;have:=TI b (Bok.upE es day) day k;omega) ?_)
   intro A' n' c' τ3 ho5
   exact k20 _ _ _ _ (Lse.low Ar.own (Lse.of ho5) hs4)
  ·rw [if_neg (by omega)]
   exact ho3
 ·obtain rfl:k=b.I.length:=by omega
  rw [h10']
  intro _
  obtain ⟨σ4,h6,h7⟩:=Lse.low Ar.own ho hs2
  exact BM h7 ⟨_,_,_,rfl,h6⟩
end
end Go.Proofs.YthhadkggldcolaaGreat
