/- Trimmed by wip/trim.py to what this claim rests on. -/
import Derived.Test.YthhadkggldcolaaGreatPNa5
namespace Go.Proofs.YthhadkggldcolaaGreat
set_option maxRecDepth 100000
open Go.RowKit
def Bok.why (b:Bok) (es:List Ent) (ride day:Int):List Int :=
 (((if b.ckd es ride b.R.length < day then [1] else [])++(if IT es ride then [] else [2]))++(if lst (tsP ride) ride es=day then [] else [3]))++(if b.ins es ride < day then [4] else [])
def Bok.rel (b:Bok) (es:List Ent) (day:Int):List Int:=((List.range b.I.length).filter fun i:Nat=>decide ((b.why es (i:Nat) day).length=0)).map fun i:Nat=>(i:Int)
def OF (b:Bok) (es:List Ent) (day:Int) (k:Nat):List Int:=((List.range k).filter fun i:Nat=>decide ((b.why es (i:Nat) day).length=0)).map fun i:Nat=>(i:Int)
theorem Uk {b:Bok} {es:List Ent} {day:Int} {k:Nat}:OF b es day (k + 1)=if (b.why es (k:Nat) day).length=0 then OF b es day k++[(k:Int)] else OF b es day k:=by
 unfold OF
 rw [List.range_succ,List.filter_append,List.map_append]
 by_cases h:(b.why es (k:Nat) day).length=0
 ·rw [if_pos h,List.filter_cons_of_pos (by simpa using h)]; rfl
 ·rw [if_neg h,List.filter_cons_of_neg (by simpa using h)]; simp
theorem Tr (b:Bok) (es:List Ent) (day:Int) (k:Nat):(OF b es day k).length<=k:=by
 unfold OF
 rw [List.length_map]
 exact Nat.le_trans (List.length_filter_le _ _) (by simp)
def Bok.relD (b:Bok) (es:List Ent) (day:Int):List Int:=if b.dayE es day=0 then b.rel (Bok.upE es day) day else []
def O7 (b1:Nat) (xs:List Int):Rel:=fun σ τ=>∃ s:SL,((Blk b1 (.cells #[s.v] 26 (0,0))).seq fun σ' τ'=>Aj 3 [.int .i64] σ' s.A s.n s.c xs τ') σ τ
theorem O7.port {b1:Nat} {xs:List Int}:Ar (O7 b1 xs):=Ar.ex fun _=>Ar.blk.seq Ar.own
section
variable {σ:Hp} {w:BkW} {E:SL} {b:Bok} {es:List Ent}
theorem ZD {ride:Int} (h:LgR σ w E b es) (hl:es.length<=4294967296) (hr:0<=ride/\ride < b.I.length) :
  Af Tryz.prog KZ #[lgV w E,.int .i64 ride] σ fun v σ'=>v=.int .i64 (b.ins es ride)/\σ'=σ:=by
 refine Ia _ _ _ _ _ _ _ _ _ _ _ _ _ _ _ ?_
 unfold CR
 refine Ad fun J3 h3=>?_
 refine Be DP AaI ?_
 rintro v σ12 ⟨bb,rfl,hbb⟩
 refine ⟨_,rfl,?_⟩
 intro b14 n14 b18 n18 lb Rec nlb hcall
 have hB0:Bxs [(bb,lgO w E),(b14,.cells #[.int .i64 ride] 3),(b18,.cells #[.int .i64 0] 3),(lb,Rec .ready none)] σ _:=⟨_,hbb,_,⟨n14,rfl⟩,_,⟨n18,rfl⟩,_,⟨nlb,rfl⟩,rfl⟩
 refine Xn.nf Di (Af.mono (Wn (w:=w) (E:=E) (es:=es) (y:=.func (.yield lb) #[] #[]) (b:=bb)
  (I:=fun i τ=>(∀ j (h:j < es.length),j < i->LZ ride (es[es.length - 1 - j]'(by omega))=none)/\Bxs [(bb,lgO w E),(b14,.cells #[.int .i64 ride] 3),(b18,.cells #[.int .i64 0] 3),(lb,Rec .ready none)] σ τ)
  (Q:=fun τ=>Bxs [(bb,lgO w E),(b14,.cells #[.int .i64 ride] 3),(b18,.cells #[.int .i64 (b.ins es ride)] 3),(lb,Rec .done (some .ret))] σ τ)
  rfl hl (fun i τ hh=>⟨hh.2.at (k:=0) rfl,h.e.sub hh.2.sub⟩) (fun i hi τ hh=>?_) ⟨fun j _ h=>absurd h (Nat.not_lt_zero _),hB0⟩) ?_)
 ·obtain ⟨hno,hB⟩:=hh
  have glb:=hB.at (k:=3) rfl
  refine hcall _ _ _ glb ⟨_,_,_,_,_,rfl,fun _=>⟨glb,?_⟩⟩
  have h3:Bxs [(bb,lgO w E),(b14,.cells #[.int .i64 ride] 3),(b18,.cells #[.int .i64 0] 3),(lb,Rec .busy none)] σ _:=hB.set (k:=3) rfl (Rec .busy none)
  generalize τ.ins lb (Rec .busy none)=τ9 at h3 ⊢
  have hlater:∀ j,(hj:j < es.length)->es.length - 1 - i < j->LZ ride es[j]=none:=fun j hj h1=>by
   have:=hno (es.length - 1 - j) (by omega) (by omega)
   have e1:es.length - 1 - (es.length - 1 - j)=j:=by omega
   simp only [e1] at this
   exact this
  have hres:∀ a,LZ ride (es[es.length - 1 - i]'(by omega))=some a->b.ins es ride=a:=fun a ha=>YU (by omega) ha hlater
  have hgo:LZ ride (es[es.length - 1 - i]'(by omega))=none->∀ j (h:j < es.length),j < i + 1->LZ ride (es[es.length - 1 - j]'(by omega))=none:=fun hn j hj h1=>by
   rcases Nat.lt_or_ge j i with a | a
   ·exact hno j hj a
   ·obtain rfl:j=i:=by omega
    exact hn
  clear hno hlater
  generalize es[es.length - 1 - i]'(by omega)=x at *
  refine Ad fun J41 h41=>?_
  have k41:∀ t,t=decide (x.2.1=5/\x.2.2.1=ride)->J41 t τ9:=by
   rintro t rfl
   rw [h41]
   intro _
   refine AA (fun a=>h3.stv (k:=2) rfl (by decide) fun τ2 h4=>?_) (fun a=>⟨h3.at (k:=3) rfl,true,rfl,fun _=>⟨hgo ?_,h3.set (k:=3) rfl (Rec .ready none)⟩,fun e=>by cases e⟩)
   ·have h4:Bxs [(bb,lgO w E),(b14,.cells #[.int .i64 ride] 3),(b18,.cells #[.int .i64 x.2.2.2.1] 3),(lb,Rec .busy none)] σ τ2:=h4
    refine ⟨h4.at (k:=3) rfl,false,rfl,fun e=>(by cases e),fun _=>?_⟩
    rw [hres x.2.2.2.1 (by unfold LZ; rw [if_pos a])]
    exact h4.set (k:=3) rfl (Rec .done (some .ret))
   ·unfold LZ; rw [if_neg a]
  refine AA (fun a=>Bn (h3.at (k:=1) rfl) rfl (k41 _ ?_)) (fun a=>k41 _ ?_)
  ·simp [a]
  ·simp [a]
 ·rintro v τ (⟨hno,hB⟩ | hB)
  ·refine ⟨.ready,none,hB.at (k:=3) rfl,rfl,?_⟩
   have hB:=hB.set (k:=3) rfl (Rec .exhausted none)
   generalize τ.ins lb (Rec .exhausted none)=τ1 at hB ⊢
   show J3 _ _ _
   rw [h3]
   intro _
   refine AD (Bn (hB.at (k:=1) rfl) rfl (Cs (h.b.sub hB.sub).i hr.1 hr.2 (AD (hB.stv (k:=2) rfl (by decide) fun τ2 h4=>AD (Bn (h4.at (k:=2) rfl) rfl (BH h4.sub ⟨?_,rfl⟩))))))
   have:b.ins es ride=gt b.I ride:=VV fun j hj=>by
    have:=hno (es.length - 1 - j) (by omega) (by omega)
    have e1:es.length - 1 - (es.length - 1 - j)=j:=by omega
    simp only [e1] at this
    exact this
   rw [this]
  ·refine ⟨.done,some .ret,hB.at (k:=3) rfl,rfl,?_⟩
   have hB:=hB.set (k:=3) rfl (Rec .exhausted (some .ret))
   generalize τ.ins lb (Rec .exhausted (some .ret))=τ1 at hB ⊢
   exact Bn (hB.at (k:=2) rfl) rfl (BH hB.sub ⟨rfl,rfl⟩)
theorem AeI {b1:Nat} {xs:List Int} {r:Int} {t:Bool} {τ:Hp} (hl:xs.length<=10) (h:O7 b1 xs σ τ):Af Tryz.prog Gl #[.int .i64 r,.bool t,.pointer (some ⟨b1,0,none⟩)] τ fun _ τ'=>O7 b1 (xs++if t then [r] else []) σ τ':=by
 refine JP _ _ _ _ _ ?_
 unfold DA
 obtain ⟨s,σx,hB,ho⟩:=h
 refine BJ (fun e=>AD (Bb (ho.sub _ _ hB.get) rfl (BO ho (AX (by show xs.length + 1<=_; omega) ?_)))) (fun e=>Ah ?_)
 ·subst e
  intro A n c σ7 ho7
  refine AD ⟨LK (ho7.sub _ _ hB.get) (Nat.zero_lt_one),?_⟩
  rw [FD (ho7.sub _ _ hB.get)]
  exact Ah ⟨⟨A,n,c⟩,_,hB.again,Ar.own.again ho7 hB.get _⟩
 ·subst e
  rw [show (xs++if false=true then [r] else [])=xs by simp]
  exact ⟨s,σx,hB,ho⟩
theorem YY {b1:Nat} {xs:List Int} {r:Int} {t:Bool} {τ:Hp} {K:Hp->Prop} (hl:xs.length<=10) (h:O7 b1 xs σ τ) (hk:∀ τ',O7 b1 (xs++if t then [r] else []) σ τ'->K τ') :
  cl Tryz.prog (.func (.func Gl) #[] #[.pointer (some ⟨b1,0,none⟩)]) #[.int .i64 r,.bool t] τ fun _ τ'=>K τ' :=
 Ct.mono (Ct.func HF (AeI hl h)) fun _ _ h=>hk _ h
theorem Aex {ride day:Int} (h:LgR σ w E b es) (hb:b.ok=true) (he:OB es) (hr:0<=ride/\ride < b.I.length) :
  Af Tryz.prog O3 #[lgV w E,.int .i64 ride,.int .i64 day] σ (Zo 3 [.int .i64] σ (b.why es ride day)):=by
 refine Mz _ _ _ _ _ _ _ _ _ _ _ _ _ _ _ _ ?_
 unfold ED
 have hn:=he.n
 intro b1 n1
 have hP:O7 b1 [] σ (σ.ins b1 (.cells #[.slice none 0 0] 26)):=⟨⟨none,0,0⟩,_,⟨n1,rfl⟩,Aj.nil ..⟩
 generalize σ.ins b1 (.cells #[.slice none 0 0] 26)=τ at hP ⊢
 refine clI GM (ZR (h.sub (O7.port.sub hP)) hb he) ?_
 refine YY (by decide) hP fun τ1 hP1=>?_
 clear hP
 refine clB HA (Ab7 (h.sub (O7.port.sub hP1)) he) ?_
 refine YY (by rw [List.nil_append]; split <;> decide) hP1 fun τ2 hP2=>?_
 clear hP1
 intro b13 n13
 obtain ⟨σ1,hb13,hP3⟩:=Ar.swap O7.port Ar.blk hP2 (S:=Blk b13 (.cells #[.int .i64 ride] 3)) ⟨n13,rfl⟩
 generalize τ2.ins b13 (.cells #[.int .i64 ride] 3)=τ3 at hP3 ⊢
 have hg3:∀ {xs τ},O7 b1 xs σ1 τ->τ b13=some (.cells #[.int .i64 ride] 3,true):=fun hP=>O7.port.sub hP _ _ hb13.get
 have hs1:=hb13.nin
 refine clI DR (Abk (p:=tsP ride) (h.sub (hs1.trans (O7.port.sub hP3))) (by omega) rfl fun τ hτ x _=>?_) ?_
 ·refine Ct.func HG (Kh _ _ _ _ _ _ _ _ ?_)
  unfold Dv
  refine AA (fun e=>AD (Bn (hτ _ _ (hg3 hP3)) rfl (Ah ⟨?_,rfl⟩))) (fun e=>Ah ⟨?_,rfl⟩)
  ·simp [tsP,e]
  ·simp [tsP,e]
 have hlen2:∀ (p q:Prop) [Decidable p] [Decidable q],((([]:List Int)++if p then [1] else [])++if q then [2] else []).length<=2:=by
  intro p q _ _
  by_cases hp:p <;> by_cases hq:q <;> simp [hp,hq]
 refine YY (Nat.le_trans (hlen2 _ _) (by decide)) hP3 fun τ4 hP4=>?_
 clear hP3
 refine Bn (hg3 hP4) rfl ?_
 refine clI GB (ZD (h.sub (hs1.trans (O7.port.sub hP4))) (by omega) hr) ?_
 refine YY ?_ hP4 fun τ5 hP5=>?_
 ·rw [List.length_append]
  have:=hlen2 (decide (b.ckd es ride b.R.length < day)=true) ((!IT es ride)=true)
  have h3:∀ (p:Prop) [Decidable p],(if p then [(3:Int)] else []).length<=1:=by
   intro p _
   by_cases hp:p <;> simp [hp]
  have:=h3 ((!decide (lst (tsP ride) ride es=day))=true)
  omega
 clear hP4
 obtain ⟨s,σx,hB,ho⟩:=hP5
 have hg:=ho.sub _ _ hB.get
 refine Bb hg rfl ⟨LK hg (Nat.zero_lt_one),?_⟩
 rw [FD hg]
 have ho:=Ar.own.again ho hB.get (.cells #[s.v] 26 (0,0))
 have hB:=hB.again (o':=.cells #[s.v] 26 (0,0))
 refine Bb (ho.sub _ _ hB.get) rfl ?_
 obtain ⟨σz,h6,h7⟩:=Ar.own.less (R:=fun a c=>Aj 3 [.int .i64] a s.A s.n s.c _ c) ho (hs1.trans hB.nin)
 refine BH h7 ⟨s.A,s.n,s.c,rfl,?_⟩
 have e:b.why es ride day=((([]++if decide (b.ckd es ride b.R.length < day)=true then [1] else [])++if (!IT es ride)=true then [2] else [])++if (!decide (lst (tsP ride) ride es=day))=true then [3] else [])++if decide (b.ins es ride < day)=true then [4] else []:=by
  unfold Bok.why
  rw [List.nil_append]
  congr 1
  ·congr 1
   ·congr 1
    ·by_cases hq:b.ckd es ride b.R.length < day <;> simp [hq]
    ·cases IT es ride <;> rfl
   ·by_cases hq:lst (tsP ride) ride es=day <;> simp [hq]
  ·by_cases hq:b.ins es ride < day <;> simp [hq]
 rw [e]
 exact h6
def AbV (e:TypeId) (ss:List Sh) (σ:Hp) (xs:List (TyR ss)) (n:Int):Value->Hp->Prop:=fun v σ'=>∃ A k c,v=.tuple #[.slice A k c,.int .i64 n]/\Aj e ss σ A k c xs σ'
theorem Yh {day:Int} (h:LgR σ w E b es):Af Tryz.prog N4 #[w.v,E.v,.int .i64 day] σ (AbV 3 [.int .i64] σ (b.relD es day) (b.dayE es day)):=by
 refine Lm _ _ _ _ _ _ _ _ _ _ _ _ _ _ _ ?_
 unfold Ec
 refine Be JT (Z2 h) ?_
 rintro v σ2 ⟨hs2,w',E',rfl,hh⟩
 refine ⟨_,_,_,_,_,_,_,_,_,_,_,_,_,rfl,Br (fun e=>BH hs2 ⟨_,_,_,rfl,?_⟩) (fun e=>?_)⟩
 ·have e2:b.relD es day=[]:=if_neg e
  rw [e2]; exact Aj.nil ..
 obtain ⟨rfl,hl⟩:=hh e
 obtain ⟨hc,hd⟩:=Bok.dayE0 e
 obtain ⟨hb,_⟩:=Bok.chk_ok hc
 have he:OB (Bok.upE es day):=(Bok.chk_es hc).take _
 have e2:b.relD es day=OF b (Bok.upE es day) day b.I.length:=if_pos e
 rw [e2,e]
 have hin:=h.b.in
 have h10:=(Bok.ok_spec hb).2.2.1
 refine Ad fun J10 h10'=>?_
 refine ⟨fun m A n c i τ=>∃ k:Nat,m=b.I.length - k/\i=k/\k<=b.I.length/\Lse (fun a c'=>Aj 3 [.int .i64] a A n c (OF b (Bok.upE es day) day k) c') σ2 τ,⟨_,0,rfl,rfl,by omega,⟨_,Aj.nil ..,Hp.Sub.refl _⟩⟩,?_⟩
 rintro m A n c i τ ⟨k,rfl,rfl,hk,ho⟩ _
 have hs:=Lse.sub Ar.own ho
 refine AA (fun hlt=>?_) (fun hlt=>?_)
 ·have hkl:k < b.I.length:=by omega
  refine Ad fun J20 h20=>?_
  have k20:∀ A n c τ',Lse (fun a c'=>Aj 3 [.int .i64] a A n c (OF b (Bok.upE es day) day (k + 1)) c') σ2 τ'->J20 A n c τ':=by
   intro A n c τ' ho'
   rw [h20]
   intro _
   exact AQ (by omega) (AY _ (by omega) ⟨k + 1,rfl,by omega,by omega,ho'⟩)
  rw [Uk] at k20
  refine Be Jd (Aex (hl.sub hs) hb he (by omega)) ?_
  rintro v τ2 ⟨A2,n2,c2,rfl,ho2⟩
  have hn2:n2=(b.why (Bok.upE es day) (k:Nat) day).length:=ho2.len
  have ho3:=ho.up ho2.sub
  refine ⟨_,_,_,rfl,AA (fun e2=>?_) (fun e2=>k20 _ _ _ _ ?_)⟩
  ·rw [if_pos (by omega)] at k20
   obtain ⟨σ3,ho4,hs4⟩:=Lse.exact Ar.own ho3
   refine BO ho4 (AX (by show (OF b (Bok.upE es day) day k).length + 1<=_; have:=Tr b (Bok.upE es day) day k; omega) ?_)
   intro A' n' c' τ3 ho5
   exact k20 _ _ _ _ (Lse.low Ar.own (Lse.of ho5) hs4)
  ·rw [if_neg (by omega)]
   exact ho3
 ·obtain rfl:k=b.I.length:=by omega
  rw [h10']
  intro _
  obtain ⟨σ4,h6,h7⟩:=Lse.low Ar.own ho hs2
  exact BH h7 ⟨_,_,_,rfl,h6⟩
end
end Go.Proofs.YthhadkggldcolaaGreat
