/- Trimmed by wip/trim.py to what this claim rests on. -/
import Derived.Test.YtoelhdjloaknbaaGreatPNm3
namespace Go.Proofs.YtoelhdjloaknbaaGreat
set_option maxRecDepth 100000
open Go.RowKit
section
variable {σ:Hp} {R:List Rp} {w:List Bool}
def LG (R:List Rp) (w:List Bool) (c a i:Nat):Bool:=w.getD i false&&(!(decide (i=c))&&(!(decide (i=a))&&(decide (kdR R i=1)&&Bh R i a||decide (kdR R i=2)&&Bh R c i)))
theorem YM {c a:Nat} (hw:w.length=R.length) (hc:c∈wtL (kdR R) w 1) (ha:a∈wtL (kdR R) w 2):okM (kdR R) (Bh R) w c a=(Bh R c a && !(List.range R.length).any (LG R w c a)):=by
 obtain ⟨c1,c2,c3⟩:=Bp.1 hc
 obtain ⟨a1,a2,a3⟩:=Bp.1 ha
 have key:okM (kdR R) (Bh R) w c a=true↔(Bh R c a && !(List.range R.length).any (LG R w c a))=true:=by
  rw [NR,Bool.and_eq_true,Bool.not_eq_true',List.any_eq_false]
  refine and_congr Iff.rfl ⟨fun ⟨h1,h2⟩ i hi=>?_,fun h=>⟨fun i hi hne=>?_,fun i hi hne=>?_⟩⟩
  ·have hi:=List.mem_range.1 hi
   unfold LG
   intro hb
   simp only [Bool.and_eq_true,Bool.or_eq_true,Bool.not_eq_true',decide_eq_true_eq,decide_eq_false_iff_not] at hb
   obtain ⟨b1,b2,b3,(⟨b4,b5⟩ | ⟨b4,b5⟩)⟩:=hb
   ·rw [h1 i (Bp.2 ⟨by omega,b1,b4⟩) b2] at b5
    cases b5
   ·rw [h2 i (Bp.2 ⟨by omega,b1,b4⟩) b3] at b5
    cases b5
  ·obtain ⟨i1,i2,i3⟩:=Bp.1 hi
   have:=h i (List.mem_range.2 (by omega))
   cases e:Bh R i a with
   | false=>rfl
   | true=>
    refine absurd ?_ this
    unfold LG
    have hia:¬ i=a:=fun x=>by rw [x,a3] at i3;omega
    rw [i2,e,decide_eq_false hne,decide_eq_false hia,decide_eq_true i3]
    rfl
  ·obtain ⟨i1,i2,i3⟩:=Bp.1 hi
   have:=h i (List.mem_range.2 (by omega))
   cases e:Bh R c i with
   | false=>rfl
   | true=>
    refine absurd ?_ this
    unfold LG
    have hic:¬ i=c:=fun x=>by rw [x,c3] at i3;omega
    rw [i2,e,decide_eq_false hne,decide_eq_false hic,decide_eq_true i3]
    simp
 cases e1:okM (kdR R) (Bh R) w c a<;>cases e2:(Bh R c a && !(List.range R.length).any (LG R w c a))
 ·rfl
 ·rw [e1,e2] at key
  exact absurd (key.2 rfl) (by decide)
 ·rw [e1,e2] at key
  exact absurd (key.1 rfl) (by decide)
 ·rfl
theorem Z9 {A:Option Addr} {n:Nat} {i:Nat} {K:Bool->Prop} (h:RdS [.bool] σ A n w) (hn:i<w.length) (hk:K (w.getD i false)):ix A n (i:Nat) 1 fun b a=>ldB σ b a K:=by
 have e:w.getD i false=w[i]:=by simp [List.getD,hn]
 rw [e] at hk
 exact Y4 h hn hk
theorem Yg {i j:Nat} {K:Bool->Hp->Prop} (hm:Sk R) (hi:i<R.length) (hj:j<R.length) (hk:K (Bh R i j) σ):cl Tryz.prog (.func (.func O7) #[] #[]) #[.agg #[.int .i64 (rp R i).1,.int .i64 (rp R i).2.1,.int .i64 (rp R i).2.2],.agg #[.int .i64 (rp R j).1,.int .i64 (rp R j).2.1,.int .i64 (rp R j).2.2]] σ fun v σ'=>∃ t:Bool,(v=.bool t/\K t σ'):=
 clB Na (ZX (x:=rp R i) (y:=rp R j) (hm i hi) (hm j hj)) hk
theorem X3 {L W:SL} {c a:Nat} (hR:RdS sRp σ L.A L.n R) (hW:RdS [.bool] σ W.A W.n w) (hw:w.length=R.length) (hm:Sk R) (hc:c<R.length) (ha:a<R.length) (hl:R.length<=60):Ad Tryz.prog Q5 #[L.v,W.v,.int .i64 (c:Nat),.int .i64 (a:Nat)] σ fun v σ'=>v=.bool (!(List.range R.length).any (LG R w c a))/\σ'=σ:=by
 refine ON _ _ _ _ _ _ _ _ _ _ ?_
 unfold Hn
 have hn:L.n=R.length:=hR.1
 refine Ae fun J3 h3=>?_
 refine ⟨fun q i τ=>∃ k:Nat,q=R.length-k/\i=k/\k<=R.length/\τ=σ/\∀ j,j<k->LG R w c a j=false,⟨_,0,rfl,rfl,by omega,rfl,fun j h=>by omega⟩,?_⟩
 rintro q i τ ⟨k,rfl,rfl,hk,rfl,hj⟩ _
 refine AF (fun hlt=>?_) (fun hlt=>?_)
 ·have hkl:k<R.length:=by omega
  refine Ae fun J11 h11=>Ae fun J17 h17=>Ae fun J72 h72=>?_
  have k11:LG R w c a k=false->J11 τ:=by
   intro e
   rw [h11]
   intro _
   refine AR (by omega) (AV _ (by omega) ⟨k+1,rfl,by omega,by omega,rfl,fun j hjk=>?_⟩)
   rcases Nat.lt_or_ge j k with h1 | h1
   ·exact hj j h1
   ·have:j=k:=by omega
    subst this
    exact e
  have kf:LG R w c a k=true->rt τ (fun v σ'=>v=.bool (!(List.range R.length).any (LG R w c a))/\σ'=τ) (.bool false):=by
   intro e
   refine Ak ⟨?_,rfl⟩
   have:(List.range R.length).any (LG R w c a)=true:=List.any_eq_true.2 ⟨k,List.mem_range.2 hkl,e⟩
   rw [this]
   rfl
  have k17:w.getD k false=true->¬ k=c->¬ k=a->J17 τ:=by
   intro e1 e2 e3
   have eb:LG R w c a k=(decide (kdR R k=1)&&Bh R k a||decide (kdR R k=2)&&Bh R c k):=by
    unfold LG
    rw [e1,decide_eq_false e2,decide_eq_false e3]
    rfl
   rw [eb] at k11 kf
   rw [h17]
   intro _
   refine Ae fun J20 h20=>?_
   have k20:∀ t,t=(decide (kdR R k=1)&&Bh R k a||decide (kdR R k=2)&&Bh R c k)->J20 t τ:=by
    rintro t rfl
    rw [h20]
    intro _
    exact Cn (fun e=>kf e) (fun e=>k11 e)
   clear h20 k11 kf h17
   refine OU hR hkl (AF (fun e4=>Hm hR hkl (Hm hR ha (Yg hm hkl ha (Cn (fun e5=>k20 _ ?_) (fun e5=>OU hR hkl (AF (fun e6=>?_) (fun e6=>k20 _ ?_))))))) (fun e4=>OU hR hkl (AF (fun e6=>Hm hR hc (Hm hR hkl (Yg hm hc hkl (k20 _ ?_)))) (fun e6=>k20 _ ?_))))
   ·rw [e5,decide_eq_true e4]
    rfl
   ·rw [e6] at e4
    exact absurd e4 (by decide)
   ·rw [e5,decide_eq_false e6]
    simp
   ·rw [decide_eq_false e4,decide_eq_true e6]
    rfl
   ·rw [decide_eq_false e4,decide_eq_false e6]
    rfl
  clear h17
  have k72:∀ t,t=(!w.getD k false||(decide (k=c)||decide (k=a)))->J72 t τ:=by
   rintro t rfl
   rw [h72]
   intro _
   refine Cn (fun e=>k11 ?_) (fun e=>?_)
   ·unfold LG
    rw [Bool.or_eq_true,Bool.or_eq_true,Bool.not_eq_true'] at e
    rcases e with e | e | e
    ·rw [e]
     rfl
    ·rw [e]
     simp
    ·rw [e]
     simp
   ·simp only [Bool.or_eq_false_iff,Bool.not_eq_false',decide_eq_false_iff_not] at e
    exact k17 e.1 e.2.1 e.2.2
  clear h72 k17 k11 kf
  refine Z9 hW (by omega) (Bv (fun e=>k72 _ ?_) (fun e=>AF (fun e2=>k72 _ ?_) (fun e2=>k72 _ ?_)))
  ·rw [e]
   rfl
  ·rw [e,decide_eq_true (by omega:k=c)]
   rfl
  ·rw [e,decide_eq_false (by omega:¬ k=c)]
   show decide (((k:Nat):Int)=(a:Nat))=decide (k=a)
   exact decide_eq_decide.2 (by omega)
 ·obtain rfl:k=R.length:=by omega
  rw [h3]
  intro _
  refine Ak ⟨?_,rfl⟩
  have:(List.range R.length).any (LG R w c a)=false:=List.any_eq_false.2 fun j h=>by rw [hj j (List.mem_range.1 h)];decide
  rw [this]
  rfl
def nxV (o:Option (Nat×Nat)):Value:=match o with
 | none=>.tuple #[.int .i64 (-1),.int .i64 (-1)]
 | some (c,a)=>.tuple #[.int .i64 (c:Nat),.int .i64 (a:Nat)]
theorem Zc {L W:SL} (hR:RdS sRp σ L.A L.n R) (hW:RdS [.bool] σ W.A W.n w) (hw:w.length=R.length) (hm:Sk R) (hl:R.length<=60):Ad Tryz.prog Sy #[L.v,W.v] σ fun v σ'=>v=nxV (nxM (kdR R) (Bh R) w)/\σ'=σ:=by
 refine PG _ _ _ _ _ _ _ _ ?_
 unfold IL
 have hn:L.n=R.length:=hR.1
 refine Ae fun J3 h3=>?_
 refine ⟨fun q i τ=>∃ k:Nat,q=R.length-k/\i=k/\k<=R.length/\τ=σ/\∀ c∈wtL (kdR R) w 1,c<k->∀ a∈wtL (kdR R) w 2,okM (kdR R) (Bh R) w c a=false,⟨_,0,rfl,rfl,by omega,rfl,fun c _ h=>by omega⟩,?_⟩
 rintro q i τ ⟨c,rfl,rfl,hk,rfl,hj⟩ _
 refine AF (fun hlt=>?_) (fun hlt=>?_)
 ·have hcl:c<R.length:=by omega
  refine Ae fun J11 h11=>Ae fun J17 h17=>Ae fun J57 h57=>?_
  have k11:(c∈wtL (kdR R) w 1->∀ a∈wtL (kdR R) w 2,okM (kdR R) (Bh R) w c a=false)->J11 τ:=by
   intro e
   rw [h11]
   intro _
   refine AR (by omega) (AV _ (by omega) ⟨c+1,rfl,by omega,by omega,rfl,fun j hjm hjk=>?_⟩)
   rcases Nat.lt_or_ge j c with h1 | h1
   ·exact hj j hjm h1
   ·have:j=c:=by omega
    subst this
    exact e hjm
  clear h11
  have k17:c∈wtL (kdR R) w 1->J17 τ:=by
   intro hc
   rw [h17]
   intro _
   refine ⟨fun q i τ'=>∃ k:Nat,q=R.length-k/\i=k/\k<=R.length/\τ'=τ/\∀ a∈wtL (kdR R) w 2,a<k->okM (kdR R) (Bh R) w c a=false,⟨_,0,rfl,rfl,by omega,rfl,fun c _ h=>by omega⟩,?_⟩
   rintro q i τ' ⟨a,rfl,rfl,hka,rfl,hja⟩ _
   refine AF (fun hlt2=>?_) (fun hlt2=>?_)
   ·have hal:a<R.length:=by omega
    refine Ae fun J25 h25=>Ae fun J31 h31=>?_
    have k25:(a∈wtL (kdR R) w 2->okM (kdR R) (Bh R) w c a=false)->J25 τ':=by
     intro e
     rw [h25]
     intro _
     refine AR (by omega) (AV _ (by omega) ⟨a+1,rfl,by omega,by omega,rfl,fun j hjm hjk=>?_⟩)
     rcases Nat.lt_or_ge j a with h1 | h1
     ·exact hja j hjm h1
     ·have:j=a:=by omega
      subst this
      exact e hjm
    clear h25
    have k31:∀ t,(t=true->a∈wtL (kdR R) w 2/\okM (kdR R) (Bh R) w c a=true)->(t=false->a∈wtL (kdR R) w 2->okM (kdR R) (Bh R) w c a=false)->J31 t τ':=by
     intro t ht hf
     rw [h31]
     intro _
     refine Cn (fun e=>Ak ⟨?_,rfl⟩) (fun e=>k25 (hf e))
     obtain ⟨ha,hok⟩:=ht e
     rw [ZD hc ha hok hj hja]
     rfl
    clear h31 k25
    refine Z9 hW (by omega) (Cn (fun e=>OU hR hal (AF (fun e2=>?_) (fun e2=>k31 _ (fun x=>(by cases x)) fun _ h=>absurd (Bp.1 h).2.2 e2))) (fun e=>k31 _ (fun x=>(by cases x)) fun _ h=>by rw [(Bp.1 h).2.1] at e;cases e))
    have ham:a∈wtL (kdR R) w 2:=Bp.2 ⟨by omega,e,e2⟩
    have hokr:=YM hw hc ham
    refine Hm hR hcl (Hm hR hal (Yg hm hcl hal (Cn (fun e3=>clB LH (X3 hR hW hw hm hcl hal hl) (k31 _ (fun x=>⟨ham,?_⟩) fun x _=>?_)) (fun e3=>k31 _ (fun x=>(by cases x)) fun _ _=>?_))))
    ·rw [hokr,e3,x]
     rfl
    ·rw [hokr,e3,x]
     rfl
    ·rw [hokr,e3]
     rfl
   ·obtain rfl:a=R.length:=by omega
    refine k11 fun _ a ha=>hja a ha ?_
    have:=(Bp.1 ha).1
    omega
  clear h17
  have k57:∀ t,(t=true->¬ c∈wtL (kdR R) w 1)->(t=false->c∈wtL (kdR R) w 1)->J57 t τ:=by
   intro t h1 h2
   rw [h57]
   intro _
   exact Cn (fun e=>k11 fun h=>absurd h (h1 e)) (fun e=>k17 (h2 e))
  clear h57 k17 k11
  refine Z9 hW (by omega) (Bv (fun e=>k57 _ (fun _ h=>?_) (fun x=>(by cases x))) (fun e=>OU hR hcl (k57 _ (fun x h=>?_) (fun x=>?_))))
  ·rw [(Bp.1 h).2.1] at e
   cases e
  ·rw [Bool.not_eq_true',decide_eq_false_iff_not] at x
   exact x (Bp.1 h).2.2
  ·rw [Bool.not_eq_false',decide_eq_true_eq] at x
   exact Bp.2 ⟨by omega,e,x⟩
 ·obtain rfl:c=R.length:=by omega
  rw [h3]
  intro _
  refine Ak ⟨?_,rfl⟩
  rw [Aav fun c hc a ha=>hj c hc ?_ a ha]
  ·rfl
  ·have:=(Bp.1 hc).1
   omega
end
end Go.Proofs.YtoelhdjloaknbaaGreat
namespace Go.Proofs.YtoelhdjloaknbaaGreat
set_option maxRecDepth 100000
open Go.RowKit
section
variable {σ:Hp} {R:List Rp}
theorem X5 {L:SL} (hR:RdS sRp σ L.A L.n R):Ad Tryz.prog Q4 #[L.v] σ (MtR σ R):=by
 refine Od _ _ _ _ _ ?_
 unfold Hx
 have hn:L.n=R.length:=hR.1
 refine AF (fun a=>Ak (MtR.err (by unfold mtE;rw [if_pos (by omega)]) (by decide))) (fun a=>?_)
 have h60:¬ 60<R.length:=by omega
 refine Ae fun J3 h3=>?_
 refine ⟨fun q l i τ=>∃ k:Nat,q=R.length-k/\l=YT R k/\i=k/\k<=R.length/\τ=σ/\∀ j,j<k->Mt R j=true,⟨_,0,rfl,rfl,rfl,by omega,rfl,fun j h=>by omega⟩,?_⟩
 rintro q l i τ ⟨k,rfl,rfl,rfl,hk,rfl,hj⟩ _
 refine AF (fun hlt=>?_) (fun hlt=>?_)
 ·have hkl:k<R.length:=by omega
  refine Ae fun J57 h57=>Ae fun J64 h64=>Ae fun J70 h70=>?_
  have k70:∀ t,t=!Mt R k->J70 t τ:=by
   rintro t rfl
   rw [h70]
   intro _
   refine Bv (fun e=>Ak (MtR.err (Vk h60 hkl e) (by decide))) (fun e=>?_)
   rw [h64]
   intro _
   refine UK hR hkl ?_
   rw [h57]
   intro _
   refine AR (by omega) (AV _ (by omega) ⟨k+1,rfl,rfl,by omega,by omega,rfl,fun j hjk=>?_⟩)
   rcases Nat.lt_or_ge j k with h1 | h1
   ·exact hj j h1
   ·have:j=k:=by omega
    subst this
    exact e
  clear h70 h64 h57
  refine UK hR hkl (Xj (Bv (fun e=>k70 _ ?_) (fun e1=>OU hR hkl (Xj (Bv (fun e=>k70 _ ?_) (fun e2=>Uv hR hkl (Xj (k70 _ ?_))))))))
  ·unfold Mt
   rw [e]
   simp
  ·unfold Mt
   rw [e]
   rfl
  ·unfold Mt
   rw [e1,e2]
   simp
 ·obtain rfl:k=R.length:=by omega
  have e0:mtE R=0:=WG h60 hj
  have hmk:Sk R:=fun i hi=>(PT (hj i hi)).2.1
  rw [h3]
  intro _
  refine ⟨by omega,by omega,by omega,Ae fun J6 h6=>?_⟩
  have hrep:(List.replicate (((L.n:Nat):Int):Int).toNat false:List Bool)=(mtF R 0).1:=by
   rw [Int.toNat_natCast,hn]
   rfl
  rw [hrep]
  refine ⟨fun q A n c w i τ'=>∃ k:Nat,q=R.length-k/\i=k/\k<=R.length/\w=(mtF R k).1/\Aj 51 sRp τ A n c (ET (mtF R k).2) τ',⟨_,0,rfl,rfl,by omega,rfl,Aj.nil ..⟩,?_⟩
  rintro q A n c w i τ' ⟨k,rfl,rfl,hk,rfl,ho⟩ _
  refine AF (fun hlt=>?_) (fun hlt=>?_)
  ·have hkl:k<R.length:=by omega
   obtain ⟨f1,f2⟩:=R1 R k
   have hca:=PS (w:=(mtF R k).1) (c:=k)
   refine Ae fun J17 h17=>⟨by omega,by omega,SA (by rw [Int.toNat_natCast];omega) ?_⟩
   rw [Int.toNat_natCast]
   refine ⟨fun q A n c w τ3=>∃ (m:Nat) (H:List (Nat×Nat×Int)),q=m/\Aj 51 sRp τ A n c (ET H) τ3/\w.length=R.length/\Gf w<=m/\H.length+Gf w<=k+1/\hrun (kdR R) (Bh R) (tmR R k) m w H=mtF R (k+1),⟨_,R.length,_,rfl,ho,by rw [List.length_set];exact f1,?_,by omega,rfl⟩,?_⟩
   ·have:=U8 (w:=(mtF R k).1.set k true)
    rw [List.length_set] at this
    omega
   rintro q A n c w τ3 ⟨m,H,rfl,h4,h5,h6,h7,h9⟩ _ A30 n30 c30 τ4 ho4
   have hrd4:RdS [.bool] τ4 A30 n30 w:=ho4.rd
   refine AW MM (Zc (W:=⟨A30,n30,c30⟩) (hR.sub (h4.sub.trans ho4.sub)) hrd4 h5 hmk (by omega)) ?_
   rintro v τ4 ⟨rfl,rfl⟩
   cases en:nxM (kdR R) (Bh R) w with
   | none=>
    refine ⟨_,_,rfl,w,τ3,ho4,AF (fun _=>?_) (fun x=>absurd (by decide) x)⟩
    rw [Rm en] at h9
    rw [h17]
    intro _
    refine AR (by omega) (AV _ (by omega) ⟨k+1,rfl,by omega,by omega,by rw [← h9],?_⟩)
    rw [← h9]
    exact h4
   | some r=>
    obtain ⟨x,y⟩:=r
    obtain ⟨m',m1,m2,m3⟩:=RD (t:=tmR R k) (H:=H) h6 en
    obtain ⟨hx,hy,_⟩:=RW en
    have c1:=Lp (Bp.1 hx).2.1
    have c2:=SE (w:=w.set x false) (a:=y)
    have hxl:=(Bp.1 hx).1
    have hyl:=(Bp.1 hy).1
    refine ⟨_,_,rfl,w,τ3,ho4,AF (fun z=>by omega) (fun _=>⟨by omega,by omega,SA (by rw [Int.toNat_natCast];exact hxl) ?_⟩)⟩
    rw [Int.toNat_natCast]
    refine ⟨by omega,by rw [List.length_set];omega,SA (by rw [Int.toNat_natCast,List.length_set];exact hyl) ?_⟩
    rw [Int.toNat_natCast]
    refine UK (hR.sub h4.sub) hkl ⟨ET H,τ,h4,Bg (by show (ET H).length+1<=_;rw [QP];omega) (AV m' m1 ?_)⟩
    intro A47 n47 c47 τ5 ho5
    refine ⟨m',H++[(x,y,tmR R k)],rfl,?_,by rw [List.length_set,List.length_set];exact h5,m2,?_,by rw [← m3];exact h9⟩
    ·rw [Rj]
     exact ho5
    ·rw [List.length_append]
     simp only [List.length_cons,List.length_nil]
     omega
  ·obtain rfl:k=R.length:=by omega
   rw [h6]
   intro _
   refine Ak ⟨⟨A,n,c⟩,by rw [e0];rfl,ho.sub,?_⟩
   have:mtL R=ET (mtF R R.length).2:=if_pos e0
   rw [this]
   exact Aj.rd ho
end
end Go.Proofs.YtoelhdjloaknbaaGreat
