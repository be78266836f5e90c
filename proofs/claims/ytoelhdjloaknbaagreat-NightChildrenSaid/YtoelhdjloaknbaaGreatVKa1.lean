/- Trimmed by wip/trim.py to what this claim rests on. -/
import Derived.Test.YtoelhdjloaknbaaGreatVJa1
import Derived.Test.YtoelhdjloaknbaaGreatVB16
namespace Go.Proofs.YtoelhdjloaknbaaGreat
open Go.RowKit Go.ChangeShapes Go.WideShapes Go.Deep Go.Joins
theorem Tryz.own:ownKnob Tryz.prog.godebug=none:=by kernel_rfl
theorem Tryz.laidOut:laidOutB Tryz.prog=true:=by kernel_rfl
section
variable {H:Type} {enc:TypeId×Value->H} {W:World} {sp:Nat->Bool} {hd:Bool}
set_option maxRecDepth 100000 in
theorem Uj {t e:TypeId} {v:Value} {d:DataW H} {p:List MemPlace} {b0:Nat} (ht:Tryz.prog.underlying t=some (.slice e)) (hv:Value.okWide Tryz.prog W .any b0 t v) (h:DataW.Trod enc Tryz.prog W 0 sp hd t v d p):∃ n,DataW.trod enc Tryz.prog W 0 sp hd n t [v]=some (d,p):=by
 obtain ⟨a,len,cap,rfl⟩:=okWide_slice ht hv
 exact h
end
end Go.Proofs.YtoelhdjloaknbaaGreat
