/- Trimmed by wip/trim.py to what this claim rests on. -/
import Derived.Test.YtoelhdjloaknbaaGreatOKn1
namespace Go.Proofs.YtoelhdjloaknbaaGreat
open Go.RowKit Go.ChangeShapes Go.WideShapes Go.Deep Go.Joins
section
variable {H:Type} {enc:TypeId×Value->H} {W:World} {sp:Nat->Bool} {hd:Bool}
set_option maxRecDepth 100000 in
theorem V8 {v:Value} {d:DataW H} {p:List MemPlace} {b0:Nat} (hv:Value.okWide Tryz.prog W .any b0 26 v) (h:DataW.Trod enc Tryz.prog W 0 sp hd 26 v d p):∃ A n c xs,v=.slice A n c/\n<=c/\RdS [.int .i64] (Hn W) A n xs:=by
 obtain ⟨n,h⟩:=Wt Tryz.underlying26 hv h
 exact G1 h
end
end Go.Proofs.YtoelhdjloaknbaaGreat
