/- What this claim rests on. -/
import Derived.Test.YtoelhdjloaknbaaGreatUSa1
import Derived.Test.YtoelhdjloaknbaaGreatUB18
namespace Go.Proofs.YtoelhdjloaknbaaGreat
open Go.RowKit Go.Proofs.Tryz
section
variable {S:Pl} {ex:Int} {p:Int->Nat} {fx lf:Int} {c:Nat} {g:Int}
def pst (a n:Nat):Int->Nat:=fun g=>if g<(n:Int) then a+1 else a
end
section
variable {w:Int} {B:List BthG} {G:List Grp}
end
end Go.Proofs.YtoelhdjloaknbaaGreat
