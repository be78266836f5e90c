/- What this claim rests on. -/
import Derived.Test.YtoelhdjloaknbaaGreatUNa1
namespace Go.Proofs.YtoelhdjloaknbaaGreat
open Go.RowKit Go.Proofs.Tryz
section
variable {σ:Hp} {w:BkW} {E:SL} {b:Bok} {es:List Ent}
end
section
variable {σ:Hp} {w:BkW} {E:SL} {b:Bok} {es:List Ent}
end
section
variable {σ:Hp} {w:BkW} {E:SL} {b:Bok} {es:List Ent}
end
end Go.Proofs.YtoelhdjloaknbaaGreat
