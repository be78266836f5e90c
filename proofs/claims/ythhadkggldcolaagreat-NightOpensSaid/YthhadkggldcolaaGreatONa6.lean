/- Trimmed by wip/trim.py to what this claim rests on. -/
import Derived.Test.YthhadkggldcolaaGreatONa5
namespace Go.Proofs.YthhadkggldcolaaGreat
set_option maxRecDepth 100000
open Go.RowKit
def Bok.why (b:Bok) (es:List Ent) (ride day:Int):List Int :=
 (((if b.ckd es ride b.R.length < day then [1] else [])++(if Ii es ride then [] else [2]))++(if lst (tsP ride) ride es=day then [] else [3]))++(if b.ins es ride < day then [4] else [])
def Bok.rel (b:Bok) (es:List Ent) (day:Int):List Int:=((List.range b.I.length).filter fun i:Nat=>decide ((b.why es (i:Nat) day).length=0)).map fun i:Nat=>(i:Int)
def JF (b:Bok) (es:List Ent) (day:Int) (k:Nat):List Int:=((List.range k).filter fun i:Nat=>decide ((b.why es (i:Nat) day).length=0)).map fun i:Nat=>(i:Int)
theorem S7 {b:Bok} {es:List Ent} {day:Int} {k:Nat}:JF b es day (k + 1)=if (b.why es (k:Nat) day).length=0 then JF b es day k++[(k:Int)] else JF b es day k:=by
 unfold JF
 rw [List.range_succ,List.filter_append,List.map_append]
 by_cases h:(b.why es (k:Nat) day).length=0
 ·rw [if_pos h,List.filter_cons_of_pos (by simpa using h)]; rfl
 ·rw [if_neg h,List.filter_cons_of_neg (by simpa using h)]; simp
theorem Rw (b:Bok) (es:List Ent) (day:Int) (k:Nat):(JF b es day k).length≤k:=by
 unfold JF
 rw [List.length_map]
 exact Nat.le_trans (List.length_filter_le _ _) (by simp)
def Bok.relD (b:Bok) (es:List Ent) (day:Int):List Int:=if b.dayE es day=0 then b.rel (Bok.upE es day) day else []
def N5 (b1:Nat) (xs:List Int):Rel:=fun σ τ=>∃ s:SL,((Blk b1 (.cells #[s.v] 26 (0,0))).seq fun σ' τ'=>Al 3 [.int .i64] σ' s.A s.n s.c xs τ') σ τ
theorem N5.port {b1:Nat} {xs:List Int}:AC (N5 b1 xs):=AC.ex fun _=>AC.blk.seq AC.own
section
variable {σ:Hp} {w:BkW} {E:SL} {b:Bok} {es:List Ent}
theorem Xz {ride:Int} (h:LgR σ w E b es) (hl:es.length≤4294967296) (hr:0≤ride∧ride < b.I.length) :
  Ad Tryz.prog Ke #[lgV w E,.int .i64 ride] σ fun v σ'=>v=.int .i64 (b.ins es ride)∧σ'=σ:=by
 refine HB _ _ _ _ _ _ _ _ _ _ _ _ _ _ _ ?_
 unfold CD
 refine Ab fun J3 h3=>?_
 refine Bb Dr YR ?_
 rintro v σ12 ⟨bb,rfl,hbb⟩
 refine ⟨_,rfl,?_⟩
 intro b14 n14 b18 n18 lb Rec nlb hcall
 have hB0:Bxs [(bb,lgO w E),(b14,.cells #[.int .i64 ride] 3),(b18,.cells #[.int .i64 0] 3),(lb,Rec .ready none)] σ _:=⟨_,hbb,_,⟨n14,rfl⟩,_,⟨n18,rfl⟩,_,⟨nlb,rfl⟩,rfl⟩
 refine VW.nf CM (Ad.mono (UB (w:=w) (E:=E) (es:=es) (y:=.func (.yield lb) #[] #[]) (b:=bb)
  (I:=fun i τ=>(∀ j (h:j < es.length),j < i→Ly ride (es[es.length - 1 - j]'(by omega))=none)∧Bxs [(bb,lgO w E),(b14,.cells #[.int .i64 ride] 3),(b18,.cells #[.int .i64 0] 3),(lb,Rec .ready none)] σ τ)
  (Q:=fun τ=>Bxs [(bb,lgO w E),(b14,.cells #[.int .i64 ride] 3),(b18,.cells #[.int .i64 (b.ins es ride)] 3),(lb,Rec .done (some .ret))] σ τ)
  rfl hl (fun i τ hh=>⟨hh.2.at (k:=0) rfl,h.e.sub hh.2.sub⟩) (fun i hi τ hh=>?_) ⟨fun j _ h=>absurd h (Nat.not_lt_zero _),hB0⟩) ?_)
 ·obtain ⟨hno,hB⟩:=hh
  have glb:=hB.at (k:=3) rfl
  refine hcall _ _ _ glb ⟨_,_,_,_,_,rfl,fun _=>⟨glb,?_⟩⟩
  have h3:Bxs [(bb,lgO w E),(b14,.cells #[.int .i64 ride] 3),(b18,.cells #[.int .i64 0] 3),(lb,Rec .busy none)] σ _:=hB.set (k:=3) rfl (Rec .busy none)
  generalize τ.ins lb (Rec .busy none)=τ9 at h3 ⊢
  have hlater:∀ j,(hj:j < es.length)→es.length - 1 - i < j→Ly ride es[j]=none:=fun j hj h1=>by
   have:=hno (es.length - 1 - j) (by omega) (by omega)
   have e1:es.length - 1 - (es.length - 1 - j)=j:=by omega
   simp only [e1] at this
   exact this
  have hres:∀ a,Ly ride (es[es.length - 1 - i]'(by omega))=some a→b.ins es ride=a:=fun a ha=>Wq (by omega) ha hlater
  have hgo:Ly ride (es[es.length - 1 - i]'(by omega))=none→∀ j (h:j < es.length),j < i + 1→Ly ride (es[es.length - 1 - j]'(by omega))=none:=fun hn j hj h1=>by
   rcases Nat.lt_or_ge j i with a | a
   ·exact hno j hj a
   ·obtain rfl:j=i:=by omega
    exact hn
  clear hno hlater
  generalize es[es.length - 1 - i]'(by omega)=x at *
  refine Ab fun J41 h41=>?_
  have k41:∀ t,t=decide (x.2.1=5∧x.2.2.1=ride)→J41 t τ9:=by
   rintro t rfl
   rw [h41]
   intro _
   refine AF (fun a=>h3.stv (k:=2) rfl (by decide) fun τ2 h4=>?_) (fun a=>⟨h3.at (k:=3) rfl,true,rfl,fun _=>⟨hgo ?_,h3.set (k:=3) rfl (Rec .ready none)⟩,fun e=>by cases e⟩)
   ·have h4:Bxs [(bb,lgO w E),(b14,.cells #[.int .i64 ride] 3),(b18,.cells #[.int .i64 x.2.2.2.1] 3),(lb,Rec .busy none)] σ τ2:=h4
    refine ⟨h4.at (k:=3) rfl,false,rfl,fun e=>(by cases e),fun _=>?_⟩
    rw [hres x.2.2.2.1 (by unfold Ly; rw [if_pos a])]
    exact h4.set (k:=3) rfl (Rec .done (some .ret))
   ·unfold Ly; rw [if_neg a]
  refine AF (fun a=>Bu (h3.at (k:=1) rfl) rfl (k41 _ ?_)) (fun a=>k41 _ ?_)
  ·simp [a]
  ·simp [a]
 ·rintro v τ (⟨hno,hB⟩ | hB)
  ·refine ⟨.ready,none,hB.at (k:=3) rfl,rfl,?_⟩
   have hB:=hB.set (k:=3) rfl (Rec .exhausted none)
   generalize τ.ins lb (Rec .exhausted none)=τ1 at hB ⊢
   show J3 _ _ _
   rw [h3]
   intro _
   refine AN (Bu (hB.at (k:=1) rfl) rfl (DB (h.b.sub hB.sub).i hr.1 hr.2 (AN (hB.stv (k:=2) rfl (by decide) fun τ2 h4=>AN (Bu (h4.at (k:=2) rfl) rfl (Bx h4.sub ⟨?_,rfl⟩))))))
   have:b.ins es ride=gt b.I ride:=T5 fun j hj=>by
    have:=hno (es.length - 1 - j) (by omega) (by omega)
    have e1:es.length - 1 - (es.length - 1 - j)=j:=by omega
    simp only [e1] at this
    exact this
   rw [this]
  ·refine ⟨.done,some .ret,hB.at (k:=3) rfl,rfl,?_⟩
   have hB:=hB.set (k:=3) rfl (Rec .exhausted (some .ret))
   generalize τ.ins lb (Rec .exhausted (some .ret))=τ1 at hB ⊢
   exact Bu (hB.at (k:=2) rfl) rfl (Bx hB.sub ⟨rfl,rfl⟩)
theorem Ab6 {b1:Nat} {xs:List Int} {r:Int} {t:Bool} {τ:Hp} (hl:xs.length≤10) (h:N5 b1 xs σ τ):Ad Tryz.prog FU #[.int .i64 r,.bool t,.pointer (some ⟨b1,0,none⟩)] τ fun _ τ'=>N5 b1 (xs++if t then [r] else []) σ τ':=by
 refine Jc _ _ _ _ _ ?_
 unfold Dk
 obtain ⟨s,σx,hB,ho⟩:=h
 refine BY (fun e=>AN (BP (ho.sub _ _ hB.get) rfl (Ci ho (Bd (by show xs.length + 1≤_; omega) ?_)))) (fun e=>Ag ?_)
 ·subst e
  intro A n c σ7 ho7
  refine AN ⟨Lk (ho7.sub _ _ hB.get) (Nat.zero_lt_one),?_⟩
  rw [Fd (ho7.sub _ _ hB.get)]
  exact Ag ⟨⟨A,n,c⟩,_,hB.again,AC.own.again ho7 hB.get _⟩
 ·subst e
  rw [show (xs++if false=true then [r] else [])=xs by simp]
  exact ⟨s,σx,hB,ho⟩
theorem Wm {b1:Nat} {xs:List Int} {r:Int} {t:Bool} {τ:Hp} {K:Hp→Prop} (hl:xs.length≤10) (h:N5 b1 xs σ τ) (hk:∀ τ',N5 b1 (xs++if t then [r] else []) σ τ'→K τ') :
  cl Tryz.prog (.func (.func FU) #[] #[.pointer (some ⟨b1,0,none⟩)]) #[.int .i64 r,.bool t] τ fun _ τ'=>K τ' :=
 Cf.mono (Cf.func GY (Ab6 hl h)) fun _ _ h=>hk _ h
theorem AbZ {ride day:Int} (h:LgR σ w E b es) (hb:b.ok=true) (he:Nu es) (hr:0≤ride∧ride < b.I.length) :
  Ad Tryz.prog NT #[lgV w E,.int .i64 ride,.int .i64 day] σ (Xh 3 [.int .i64] σ (b.why es ride day)):=by
 refine Lx _ _ _ _ _ _ _ _ _ _ _ _ _ _ _ _ ?_
 unfold El
 have hn:=he.n
 intro b1 n1
 have hP:N5 b1 [] σ (σ.ins b1 (.cells #[.slice none 0 0] 26)):=⟨⟨none,0,0⟩,_,⟨n1,rfl⟩,Al.nil ..⟩
 generalize σ.ins b1 (.cells #[.slice none 0 0] 26)=τ at hP ⊢
 refine clI Ga (XW (h.sub (N5.port.sub hP)) hb he) ?_
 refine Wm (by decide) hP fun τ1 hP1=>?_
 clear hP
 refine clB He (AaC (h.sub (N5.port.sub hP1)) he) ?_
 refine Wm (by rw [List.nil_append]; split <;> decide) hP1 fun τ2 hP2=>?_
 clear hP1
 intro b13 n13
 obtain ⟨σ1,hb13,hP3⟩:=AC.swap N5.port AC.blk hP2 (S:=Blk b13 (.cells #[.int .i64 ride] 3)) ⟨n13,rfl⟩
 generalize τ2.ins b13 (.cells #[.int .i64 ride] 3)=τ3 at hP3 ⊢
 have hg3:∀ {xs τ},N5 b1 xs σ1 τ→τ b13=some (.cells #[.int .i64 ride] 3,true):=fun hP=>N5.port.sub hP _ _ hb13.get
 have hs1:=hb13.nin
 refine clI Dx (ZD (p:=tsP ride) (h.sub (hs1.trans (N5.port.sub hP3))) (by omega) rfl fun τ hτ x _=>?_) ?_
 ·refine Cf.func Hd (I5 _ _ _ _ _ _ _ _ ?_)
  unfold Dm
  refine AF (fun e=>AN (Bu (hτ _ _ (hg3 hP3)) rfl (Ag ⟨?_,rfl⟩))) (fun e=>Ag ⟨?_,rfl⟩)
  ·simp [tsP,e]
  ·simp [tsP,e]
 have hlen2:∀ (p q:Prop) [Decidable p] [Decidable q],((([]:List Int)++if p then [1] else [])++if q then [2] else []).length≤2:=by
  intro p q _ _
  by_cases hp:p <;> by_cases hq:q <;> simp [hp,hq]
 refine Wm (Nat.le_trans (hlen2 _ _) (by decide)) hP3 fun τ4 hP4=>?_
 clear hP3
 refine Bu (hg3 hP4) rfl ?_
 refine clI F9 (Xz (h.sub (hs1.trans (N5.port.sub hP4))) (by omega) hr) ?_
 refine Wm ?_ hP4 fun τ5 hP5=>?_
 ·rw [List.length_append]
  have:=hlen2 (decide (b.ckd es ride b.R.length < day)=true) ((!Ii es ride)=true)
  have h3:∀ (p:Prop) [Decidable p],(if p then [(3:Int)] else []).length≤1:=by
   intro p _
   by_cases hp:p <;> simp [hp]
  have:=h3 ((!decide (lst (tsP ride) ride es=day))=true)
  omega
 clear hP4
 obtain ⟨s,σx,hB,ho⟩:=hP5
 have hg:=ho.sub _ _ hB.get
 refine BP hg rfl ⟨Lk hg (Nat.zero_lt_one),?_⟩
 rw [Fd hg]
 have ho:=AC.own.again ho hB.get (.cells #[s.v] 26 (0,0))
 have hB:=hB.again (o':=.cells #[s.v] 26 (0,0))
 refine BP (ho.sub _ _ hB.get) rfl ?_
 obtain ⟨σz,h6,h7⟩:=AC.own.less (R:=fun a c=>Al 3 [.int .i64] a s.A s.n s.c _ c) ho (hs1.trans hB.nin)
 refine Bx h7 ⟨s.A,s.n,s.c,rfl,?_⟩
 have e:b.why es ride day=((([]++if decide (b.ckd es ride b.R.length < day)=true then [1] else [])++if (!Ii es ride)=true then [2] else [])++if (!decide (lst (tsP ride) ride es=day))=true then [3] else [])++if decide (b.ins es ride < day)=true then [4] else []:=by
  unfold Bok.why
  rw [List.nil_append]
  congr 1
  ·congr 1
   ·congr 1
    ·by_cases hq:b.ckd es ride b.R.length < day <;> simp [hq]
    ·cases Ii es ride <;> rfl
   ·by_cases hq:lst (tsP ride) ride es=day <;> simp [hq]
  ·by_cases hq:b.ins es ride < day <;> simp [hq]
 rw [e]
 exact h6
def Wp (e:TypeId) (ss:List Sh) (σ:Hp) (xs:List (TyR ss)) (n:Int):Value→Hp→Prop:=fun v σ'=>∃ A k c,v=.tuple #[.slice A k c,.int .i64 n]∧Al e ss σ A k c xs σ'
theorem RI {day:Int} (h:LgR σ w E b es):Ad Tryz.prog NC #[w.v,E.v,.int .i64 day] σ (Wp 3 [.int .i64] σ (b.relD es day) (b.dayE es day)):=by
 refine Kr _ _ _ _ _ _ _ _ _ _ _ _ _ _ _ ?_
 unfold DN
 refine Bb JE (Y7 h) ?_
 rintro v σ2 ⟨hs2,w',E',rfl,hh⟩
 refine ⟨_,_,_,_,_,_,_,_,_,_,_,_,_,rfl,Bc (fun e=>Bx hs2 ⟨_,_,_,rfl,?_⟩) (fun e=>?_)⟩
 ·have e2:b.relD es day=[]:=if_neg e
  rw [e2]; exact Al.nil ..
 obtain ⟨rfl,hl⟩:=hh e
 obtain ⟨hc,hd⟩:=Bok.dayE0 e
 obtain ⟨hb,_⟩:=Bok.chk_ok hc
 have he:Nu (Bok.upE es day):=(Bok.chk_es hc).take _
 have e2:b.relD es day=JF b (Bok.upE es day) day b.I.length:=if_pos e
 rw [e2,e]
 have hin:=h.b.in
 have h10:=(Bok.ok_spec hb).2.2.1
 refine Ab fun J10 h10'=>?_
 refine ⟨fun m A n c i τ=>∃ k:Nat,m=b.I.length - k∧i=k∧k≤b.I.length∧Lse (fun a c'=>Al 3 [.int .i64] a A n c (JF b (Bok.upE es day) day k) c') σ2 τ,⟨_,0,rfl,rfl,by omega,⟨_,Al.nil ..,Hp.Sub.refl _⟩⟩,?_⟩
 rintro m A n c i τ ⟨k,rfl,rfl,hk,ho⟩ _
 have hs:=Lse.sub AC.own ho
 refine AF (fun hlt=>?_) (fun hlt=>?_)
 ·have hkl:k < b.I.length:=by omega
  refine Ab fun J20 h20=>?_
  have k20:∀ A n c τ',Lse (fun a c'=>Al 3 [.int .i64] a A n c (JF b (Bok.upE es day) day (k + 1)) c') σ2 τ'→J20 A n c τ':=by
   intro A n c τ' ho'
   rw [h20]
   intro _
   exact AM (by omega) (AZ _ (by omega) ⟨k + 1,rfl,by omega,by omega,ho'⟩)
  rw [S7] at k20
  refine Bb Ip (AbZ (hl.sub hs) hb he (by omega)) ?_
  rintro v τ2 ⟨A2,n2,c2,rfl,ho2⟩
  have hn2:n2=(b.why (Bok.upE es day) (k:Nat) day).length:=ho2.len
  have ho3:=ho.up ho2.sub
  refine ⟨_,_,_,rfl,AF (fun e2=>?_) (fun e2=>k20 _ _ _ _ ?_)⟩
  ·rw [if_pos (by omega)] at k20
   obtain ⟨σ3,ho4,hs4⟩:=Lse.exact AC.own ho3
   refine Ci ho4 (Bd (by show (JF b (Bok.upE es day) day k).length + 1≤_; have:=Rw b (Bok.upE es day) day k; omega) ?_)
   intro A' n' c' τ3 ho5
   exact k20 _ _ _ _ (Lse.low AC.own (Lse.of ho5) hs4)
  ·rw [if_neg (by omega)]
   exact ho3
 ·obtain rfl:k=b.I.length:=by omega
  rw [h10']
  intro _
  obtain ⟨σ4,h6,h7⟩:=Lse.low AC.own ho hs2
  exact Bx h7 ⟨_,_,_,rfl,h6⟩
end
end Go.Proofs.YthhadkggldcolaaGreat
