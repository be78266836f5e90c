/- Trimmed by wip/trim.py to what this claim rests on. -/
import Derived.Test.YtoelhdjloaknbaaGreatPKa1
import Derived.Test.YtoelhdjloaknbaaGreatPNc1
namespace Go.Proofs.YtoelhdjloaknbaaGreat
open Go.RowKit Go.ChangeShapes Go.WideShapes Go.Deep Go.Joins
section
variable {H:Type} {enc:TypeId×Value->H} {W:World} {sp:Nat->Bool} {hd:Bool} {n:Nat}
end
end Go.Proofs.YtoelhdjloaknbaaGreat
namespace Go.Proofs.YtoelhdjloaknbaaGreat
open Go.RowKit Go.ChangeShapes Go.WideShapes Go.Deep Go.Joins
theorem Zm:mapsRowed Tryz.prog=true:=by kernel_rfl
theorem Xm:(Tryz.prog.stops==[])=true:=by kernel_rfl
theorem XI:(Tryz.prog.stopKnobs==[])=true:=by kernel_rfl
theorem Ym:(Rows.nightRunsRow.plainKeys==Tryz.prog.plainKeys)=true:=by kernel_rfl
theorem XA:Tryz.prog.stopsHeard=true:=by kernel_rfl
theorem Xi:Tryz.prog.mayEnter=true:=by kernel_rfl
theorem YO:(Rows.nightRunsRow.lifted==Tryz.prog.liftsFinal)=true:=by kernel_rfl
theorem Y8:(Tryz.prog.make==some Rows.nightRunsRow.make)=true:=by kernel_rfl
theorem Bm {a b:Bool} (ha:a=true) (hb:b=true):(a&&b)=true:=by rw [ha,hb];rfl
end Go.Proofs.YtoelhdjloaknbaaGreat
namespace Go.Proofs.YtoelhdjloaknbaaGreat
open Go.RowKit Go.ChangeShapes Go.WideShapes Go.Deep Go.Joins
theorem T6:XJ Tryz.prog 55 [.int .i64,.int .i64,.int .i64]:=XJ.struct Tryz.underlying55 (by kernel_rfl) (by kernel_rfl) (by kernel_rfl)
section
variable {H:Type} {enc:TypeId×Value->H} {W:World} {sp:Nat->Bool} {hd:Bool}
set_option maxRecDepth 100000 in
theorem RP {v:Value} {d:DataW H} {p:List MemPlace} {b0:Nat} (hv:Value.okWide Tryz.prog W .any b0 46 v) (h:DataW.Trod enc Tryz.prog W 0 sp hd 46 v d p):∃ A n c,∃ xs:List (Int×Int×Int),v=.slice A n c/\n<=c/\RdS [.int .i64,.int .i64,.int .i64] (OW W) A n xs:=by
 obtain ⟨n,h⟩:=Ue Tryz.underlying46 hv h
 exact VU Tryz.underlying46 T6 (by kernel_rfl) (by decide) h
end
end Go.Proofs.YtoelhdjloaknbaaGreat
