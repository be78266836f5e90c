/- What this claim rests on. -/
import Derived.Test.YtoelhdjloaknbaaGreatUB17
namespace Go.Proofs.YtoelhdjloaknbaaGreat
open Go.RowKit Go.Proofs.Tryz
def hv (V:List Vis) (g:Int):List Vis:=V.filter fun v=>decide (v.1=g)
section
variable {S:Pl} {ex:Int} {p:Int->Nat} {fx lf:Int} {c:Nat} {g:Int}
end
end Go.Proofs.YtoelhdjloaknbaaGreat
