/- Trimmed by wip/trim.py to what this claim rests on. -/
import Derived.Test.YtoelhdjloaknbaaGreatVKa1
import Derived.Test.YtoelhdjloaknbaaGreatVNc1
namespace Go.Proofs.YtoelhdjloaknbaaGreat
open Go.RowKit Go.ChangeShapes Go.WideShapes Go.Deep Go.Joins
section
variable {H:Type} {enc:TypeId×Value->H} {W:World} {sp:Nat->Bool} {hd:Bool} {n:Nat}
end
end Go.Proofs.YtoelhdjloaknbaaGreat
namespace Go.Proofs.YtoelhdjloaknbaaGreat
open Go.RowKit Go.ChangeShapes Go.WideShapes Go.Deep Go.Joins
theorem Yk:mapsRowed Tryz.prog=true:=by kernel_rfl
theorem Wm:(Tryz.prog.stops==[])=true:=by kernel_rfl
theorem WU:(Tryz.prog.stopKnobs==[])=true:=by kernel_rfl
theorem Wx:(Rows.nightRunsRow.plainKeys==Tryz.prog.plainKeys)=true:=by kernel_rfl
theorem WY:Tryz.prog.stopsHeard=true:=by kernel_rfl
theorem XK:Tryz.prog.mayEnter=true:=by kernel_rfl
theorem Yi:(Rows.nightRunsRow.lifted==Tryz.prog.liftsFinal)=true:=by kernel_rfl
theorem Ya:(Tryz.prog.make==some Rows.nightRunsRow.make)=true:=by kernel_rfl
theorem Bh {a b:Bool} (ha:a=true) (hb:b=true):(a&&b)=true:=by rw [ha,hb];rfl
end Go.Proofs.YtoelhdjloaknbaaGreat
namespace Go.Proofs.YtoelhdjloaknbaaGreat
open Go.RowKit Go.ChangeShapes Go.WideShapes Go.Deep Go.Joins
theorem TM:Xq Tryz.prog 55 [.int .i64,.int .i64,.int .i64]:=Xq.struct Tryz.underlying55 (by kernel_rfl) (by kernel_rfl) (by kernel_rfl)
section
variable {H:Type} {enc:TypeId×Value->H} {W:World} {sp:Nat->Bool} {hd:Bool}
set_option maxRecDepth 100000 in
theorem RR {v:Value} {d:DataW H} {p:List MemPlace} {b0:Nat} (hv:Value.okWide Tryz.prog W .any b0 46 v) (h:DataW.Trod enc Tryz.prog W 0 sp hd 46 v d p):∃ A n c,∃ xs:List (Int×Int×Int),v=.slice A n c/\n<=c/\RdS [.int .i64,.int .i64,.int .i64] (OK W) A n xs:=by
 obtain ⟨n,h⟩:=Uj Tryz.underlying46 hv h
 exact Vw Tryz.underlying46 TM (by kernel_rfl) (by decide) h
end
end Go.Proofs.YtoelhdjloaknbaaGreat
