/- Trimmed by wip/trim.py to what this claim rests on. -/
import Derived.Test.YtoelhdjloaknbaaGreatVNm1
import Derived.Test.YtoelhdjloaknbaaGreatVNb1
import Derived.Test.YtoelhdjloaknbaaGreatVNc1
import Derived.Test.YtoelhdjloaknbaaGreatVNe1
import Derived.Test.YtoelhdjloaknbaaGreatVB11
import Derived.Test.YtoelhdjloaknbaaGreatVR4
import Derived.Test.YtoelhdjloaknbaaGreatVN5
namespace Go.Proofs.YtoelhdjloaknbaaGreat
open Go.RowKit
def PJ (m:Nat):Nat->Int
 | 0=>0
 | k+1=>PJ m k+if m.testBit k then 1 else 0
theorem UU (m:Nat):∀ k,0<=PJ m k/\PJ m k<=k
 | 0=>by simp [PJ]
 | k+1=>by
  have:=UU m k
  unfold PJ
  split<;>omega
def oc1 (x:Int):Int:=IntKind.u64.wrap (((BitVec.ofInt (IntKind.bits .u64) (Int.fdiv x (2^(min (1:Int).toNat (IntKind.bits .u64)))) &&& BitVec.ofInt (IntKind.bits .u64) 6148914691236517205).toNat:Int))
def oc2 (x:Int):Int:=IntKind.u64.wrap (((BitVec.ofInt (IntKind.bits .u64) x &&& BitVec.ofInt (IntKind.bits .u64) 6148914691236517205).toNat:Int))
def oc3 (x:Int):Int:=IntKind.u64.wrap ((oc1 x)+(oc2 x))
def oc4 (x:Int):Int:=IntKind.u64.wrap (((BitVec.ofInt (IntKind.bits .u64) (Int.fdiv (oc3 x) (2^(min (2:Int).toNat (IntKind.bits .u64)))) &&& BitVec.ofInt (IntKind.bits .u64) 3689348814741910323).toNat:Int))
def oc5 (x:Int):Int:=IntKind.u64.wrap (((BitVec.ofInt (IntKind.bits .u64) (oc3 x) &&& BitVec.ofInt (IntKind.bits .u64) 3689348814741910323).toNat:Int))
def oc6 (x:Int):Int:=IntKind.u64.wrap ((oc4 x)+(oc5 x))
def oc7 (x:Int):Int:=IntKind.u64.wrap ((Int.fdiv (oc6 x) (2^(min (4:Int).toNat (IntKind.bits .u64))))+(oc6 x))
def oc8 (x:Int):Int:=IntKind.u64.wrap (((BitVec.ofInt (IntKind.bits .u64) (oc7 x) &&& BitVec.ofInt (IntKind.bits .u64) 1085102592571150095).toNat:Int))
def oc9 (x:Int):Int:=IntKind.u64.wrap ((oc8 x)+(Int.fdiv (oc8 x) (2^(min (8:Int).toNat (IntKind.bits .u64)))))
def ZA (x:Int):Int:=IntKind.u64.wrap ((oc9 x)+(Int.fdiv (oc9 x) (2^(min (16:Int).toNat (IntKind.bits .u64)))))
def AaE (x:Int):Int:=IntKind.u64.wrap ((ZA x)+(Int.fdiv (ZA x) (2^(min (32:Int).toNat (IntKind.bits .u64)))))
def Aal (x:Int):Int:=IntKind.i64.wrap (AaE x)
def Aak (x:Int):Int:=IntKind.i64.wrap (((BitVec.ofInt (IntKind.bits .i64) (Aal x) &&& BitVec.ofInt (IntKind.bits .i64) 127).toNat:Int))
def Aat (x:Int):Int:=Aak x
set_option maxRecDepth 100000 in
theorem WS:((List.range 4096).all fun m=>decide (Aat (m:Int)=PJ m 12))=true:=by kernel_rfl
theorem Wh {m:Nat} (h:m<4096):Aat (m:Int)=PJ m 12:=by
 have:=List.all_eq_true.1 WS m (List.mem_range.2 h)
 exact of_decide_eq_true this
def Ye (c a:Nat):Bool:=decide (3<=PJ a 12)&&decide (a &&& c=a)
theorem Vd {a b:Nat} (ha:a<4096):IntKind.i64.wrap (((BitVec.ofInt (IntKind.bits .i64) (a:Int) &&& BitVec.ofInt (IntKind.bits .i64) (b:Int)).toNat:Nat):Int)=(a &&& b:Nat)∨2^64<=b:=by
 rcases Nat.lt_or_ge b (2^64) with hb | hb
 ·left
  have h1:∀ w,w=64->(BitVec.ofInt w (a:Int) &&& BitVec.ofInt w (b:Int)).toNat=a &&& b:=by
   rintro w rfl
   rw [BitVec.toNat_and,BitVec.toNat_ofInt,BitVec.toNat_ofInt]
   congr 1<;>omega
  have h2:a &&& b<=a:=Nat.and_le_left
  rw [h1 _ (by rfl)]
  exact Tw (by omega)
 ·exact .inr hb
section
variable {σ:Hp}
theorem GX {k:IntKind} {e:Int} {K:Int->Prop} (n:Int) (h:k.wrap e=n) (hk:K n):wk k e K:=by
 subst h
 exact hk
theorem Zn {m:Nat} (h:m<4096):Ae Tryz.prog JF #[.int .u64 (m:Nat)] σ fun v σ'=>v=.int .i64 (PJ m 12)/\σ'=σ:=by
 have h64:Ae Tryz.prog Ik #[.int .u64 (m:Nat)] σ fun v σ'=>v=.int .i64 (PJ m 12)/\σ'=σ:=by
  refine Gn _ _ _ ?_
  unfold B7
  rw [← Wh h]
  refine ⟨by decide,GX (oc1 m) rfl (GX (oc2 m) rfl (GX (oc3 m) rfl ⟨by decide,GX (oc4 m) rfl (GX (oc5 m) rfl (GX (oc6 m) rfl ⟨by decide,GX (oc7 m) rfl (GX (oc8 m) rfl ⟨by decide,GX (oc9 m) rfl ⟨by decide,GX (ZA m) rfl ⟨by decide,GX (AaE m) rfl (GX (Aal m) rfl (GX (Aak m) rfl (Al ⟨rfl,rfl⟩)))⟩⟩⟩)⟩))⟩))⟩
 refine HP _ _ _ ?_
 unfold Cv
 exact clI Fe h64 (Al ⟨rfl,rfl⟩)
abbrev Rp:=Int×Int×Int
abbrev sRp:List Sh:=[.int .i64,.int .i64,.int .i64]
def rpV (x:Rp):Value:=.agg #[.int .i64 x.1,.int .i64 x.2.1,.int .i64 x.2.2]
def rp (R:List Rp) (i:Nat):Rp:=R.getD i (0,0,0)
theorem Y6 {R:List Rp} {i:Nat} (h:i<R.length):rp R i=R[i]:=by simp [rp,List.getD,h]
def kdR (R:List Rp) (i:Nat):Int:=(rp R i).2.1
def tmR (R:List Rp) (i:Nat):Int:=(rp R i).1
def mkR (R:List Rp) (i:Nat):Nat:=(rp R i).2.2.toNat
def BZ (R:List Rp) (c a:Nat):Bool:=Ye (mkR R c) (mkR R a)
def Uf (R:List Rp):Prop:=∀ i,i<R.length->0<=(rp R i).2.2/\(rp R i).2.2<=4095
theorem UY {A:Option Addr} {n:Nat} {R:List Rp} {i:Nat} {K:Nat->Nat->Prop} (h:RdS sRp σ A n R) (hn:i<R.length)
  (hk:∀ b o,σ.cell? ⟨b,o,none⟩=some (.int .i64 (rp R i).1)->σ.cell? ⟨b,o+1,none⟩=some (.int .i64 (rp R i).2.1)->σ.cell? ⟨b,o+2,none⟩=some (.int .i64 (rp R i).2.2)->K b o):ix A n (i:Nat) 3 K:=by
 rw [Y6 hn] at hk
 exact EJ (ss:=sRp) h rfl (by omega) (by rw [Int.toNat_natCast];exact hn) fun b o hc=>hk b o (hc 0 (by decide)) (hc 1 (by decide)) (hc 2 (by decide))
theorem Ua {A:Option Addr} {n:Nat} {R:List Rp} {i:Nat} {K:Int->Prop} (h:RdS sRp σ A n R) (hn:i<R.length) (hk:K (tmR R i)):ix A n (i:Nat) 3 fun b a=>ldI σ .i64 b a K:=
 UY h hn fun _ _ c0 _ _=>AV c0 hk
theorem Qc {A:Option Addr} {n:Nat} {R:List Rp} {i:Nat} {K:Int->Prop} (h:RdS sRp σ A n R) (hn:i<R.length) (hk:K (kdR R i)):ix A n (i:Nat) 3 fun b a=>ldI σ .i64 b (a+1) K:=
 UY h hn fun _ _ _ c1 _=>AV c1 hk
theorem W6 {A:Option Addr} {n:Nat} {R:List Rp} {i:Nat} {K:Int->Prop} (h:RdS sRp σ A n R) (hn:i<R.length) (hk:K (rp R i).2.2):ix A n (i:Nat) 3 fun b a=>ldI σ .i64 b (a+2) K:=
 UY h hn fun _ _ _ _ c2=>AV c2 hk
theorem IZ {A:Option Addr} {n:Nat} {R:List Rp} {i:Nat} {K:Int->Int->Int->Prop} (h:RdS sRp σ A n R) (hn:i<R.length) (hk:K (rp R i).1 (rp R i).2.1 (rp R i).2.2):ix A n (i:Nat) 3 fun b a=>ldI σ .i64 b a fun x=>ldI σ .i64 b (a+1) fun y=>ldI σ .i64 b (a+2) fun z=>K x y z:=
 UY h hn fun _ _ c0 c1 c2=>AV c0 (AV c1 (AV c2 hk))
theorem Aaf {x y:Rp} (hx:0<=x.2.2/\x.2.2<=4095) (hy:0<=y.2.2/\y.2.2<=4095):Ae Tryz.prog OS #[rpV x,rpV y] σ fun v σ'=>v=.bool (Ye x.2.2.toNat y.2.2.toNat)/\σ'=σ:=by
 refine PI _ _ _ _ _ _ _ _ ?_
 unfold KV
 obtain ⟨m,hm⟩:∃ m:Nat,y.2.2=m:=⟨y.2.2.toNat,by omega⟩
 obtain ⟨k,hk⟩:∃ k:Nat,x.2.2=k:=⟨x.2.2.toNat,by omega⟩
 have hm4:m<4096:=by omega
 have hk4:k<4096:=by omega
 rw [hm,hk]
 simp only [Int.toNat_natCast]
 refine Af fun J3 h3=>?_
 refine ⟨fun q s i τ=>∃ b:Nat,q=12-b/\s=PJ m b/\i=b/\b<=12/\τ=σ,⟨_,0,rfl,rfl,rfl,by omega,rfl⟩,?_⟩
 rintro q s i τ ⟨b,rfl,rfl,rfl,hb,rfl⟩ _
 have hp:=UU m b
 refine AD (fun hlt=>?_) (fun hlt=>?_)
 ·have e1:IntKind.u64.wrap ((b:Nat):Int)=(b:Nat):=by
   have:∀ x:Int,0<=x->x<12->IntKind.u64.wrap x=x:=by
    intro x h1 h2
    have:x=0∨x=1∨x=2∨x=3∨x=4∨x=5∨x=6∨x=7∨x=8∨x=9∨x=10∨x=11:=by omega
    rcases this with h | h | h | h | h | h | h | h | h | h | h | h<;>subst h<;>rfl
   exact this _ (by omega) hlt
  refine GX (b:Nat) e1 ⟨by omega,?_⟩
  rw [WE (by omega)]
  refine AP (by split<;>omega) (AP (by split<;>omega) (AP (by omega) ?_))
  exact AW _ (by omega) ⟨b+1,rfl,rfl,rfl,by omega,rfl⟩
 ·obtain rfl:b=12:=by omega
  rw [h3]
  intro _
  unfold Ye
  refine AD (fun h=>?_) (fun h=>Al ⟨?_,rfl⟩)
  ·rcases Vd (a:=m) (b:=k) (by omega) with e | e
   ·unfold wk
    rw [e]
    refine Al ⟨?_,rfl⟩
    rw [decide_eq_true h,Bool.true_and]
    congr 1
    exact decide_eq_decide.2 (by omega)
   ·omega
  ·rw [decide_eq_false h,Bool.false_and]
theorem Xg {A:Option Addr} {n c:Nat} {R:List Rp} {b:Nat} {a1 a2:Nat} (h0:σ.cell? ⟨b,0,none⟩=some (.slice A n c)) (hR:RdS sRp σ A n R) (hm:Uf R) (h1:a1<R.length) (h2:a2<R.length):Ae Tryz.prog Lv #[.pointer (some ⟨b,0,none⟩),.int .i64 (a1:Nat),.int .i64 (a2:Nat)] σ fun v σ'=>v=.bool (BZ R a1 a2)/\σ'=σ:=by
 refine IJ _ _ _ _ _ ?_
 unfold Dh
 obtain ⟨m1,m2⟩:=hm a1 h1
 obtain ⟨m3,m4⟩:=hm a2 h2
 have e1:(rp R a2).2.2=(mkR R a2:Nat):=by unfold mkR;omega
 have e2:(rp R a1).2.2=(mkR R a1:Nat):=by unfold mkR;omega
 refine AA (PL h0 (W6 hR h2 ?_))
 rw [e1]
 have e3:IntKind.u64.wrap ((mkR R a2:Nat):Int)=(mkR R a2:Nat):=by
  show ((mkR R a2:Nat):Int)%_=_
  exact Int.emod_eq_of_lt (by omega) (Int.lt_of_lt_of_le (show _<(4096:Int) by omega) (by decide))
 unfold wk
 rw [e3]
 unfold BZ Ye
 refine clI FQ (Zn (by omega)) (AD (fun h=>AA (PL h0 (W6 hR h1 ?_))) (fun h=>Al ⟨?_,rfl⟩))
 ·rw [e2]
  rcases Vd (a:=mkR R a1) (b:=mkR R a2) (by omega) with e | e
  ·rw [e]
   refine Al ⟨?_,rfl⟩
   rw [decide_eq_true h,Bool.true_and]
   congr 1
   rw [Nat.and_comm]
   exact decide_eq_decide.2 (by omega)
  ·omega
 ·rw [decide_eq_false h,Bool.false_and]
end
end Go.Proofs.YtoelhdjloaknbaaGreat
