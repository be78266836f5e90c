/- Trimmed by wip/trim.py to what this claim rests on. -/
import Derived.Test.YtoelhdjloaknbaaGreatVNa4
import Derived.Test.YtoelhdjloaknbaaGreatVB11
namespace Go.Proofs.YtoelhdjloaknbaaGreat
open Go.RowKit
section
variable {σ:Hp} {w:BkW} {E:SL} {b:Bok} {es:List Ent}
end
end Go.Proofs.YtoelhdjloaknbaaGreat
namespace Go.Proofs.YtoelhdjloaknbaaGreat
open Go.RowKit
section
variable {σ:Hp} {w:BkW} {E:SL} {b:Bok} {es:List Ent}
end
end Go.Proofs.YtoelhdjloaknbaaGreat
namespace Go.Proofs.YtoelhdjloaknbaaGreat
open Go.RowKit
section
variable {σ:Hp} {w:BkW} {E:SL} {b:Bok} {es:List Ent}
end
end Go.Proofs.YtoelhdjloaknbaaGreat
