/- Trimmed by wip/trim.py to what this claim rests on. -/
import Derived.Test.YtoelhdjloaknbaaGreatPNc1
import Derived.Test.YtoelhdjloaknbaaGreatPNe1
import Derived.Test.YtoelhdjloaknbaaGreatPNb1
import Derived.Test.YtoelhdjloaknbaaGreatPB11
import Derived.Test.YtoelhdjloaknbaaGreatPR4
namespace Go.Proofs.YtoelhdjloaknbaaGreat
open Go.RowKit
section
variable {σ:Hp} {W:GaW} {g:Gal}
theorem YX {n lo hi:Int}:Ad Tryz.prog Nm #[.int .i64 n,.int .i64 lo,.int .i64 hi] σ fun v σ'=>v=.bool (Inn n lo hi)/\σ'=σ:=by
 refine Pp _ _ _ _ _ ?_
 unfold Je
 refine AF (fun h=>Ak ⟨?_,rfl⟩) (fun h=>Ak ⟨?_,rfl⟩)
 ·simp [Inn,h]
 ·simp [Inn,h]
theorem Xj {n lo hi:Int} {K:Bool->Hp->Prop} (h:K (Inn n lo hi) σ):cl Tryz.prog (.func (.func Nm) #[] #[]) #[.int .i64 n,.int .i64 lo,.int .i64 hi] σ fun v σ'=>∃ t:Bool,(v=.bool t/\K t σ'):=clB Mq YX h
theorem Y4 {A:Option Addr} {n:Nat} {xs:List Bool} {i:Nat} {K:Bool->Prop} (h:RdS [.bool] σ A n xs) (hn:i<xs.length) (hk:K xs[i]):ix A n (i:Nat) 1 fun b a=>ldB σ b a K:=
 Aam h (by omega) (by simpa using hn) (by simpa using hk)
end
end Go.Proofs.YtoelhdjloaknbaaGreat
