/- Trimmed by wip/trim.py to what this claim rests on. -/
import Derived.Test.YthhadkggldcolaaGreatOJa1
import Derived.Test.YthhadkggldcolaaGreatOB16
namespace Go.Proofs.YthhadkggldcolaaGreat
open Go.RowKit Go.ChangeShapes Go.WideShapes Go.Deep Go.Joins
theorem Tryz.own:ownKnob Tryz.prog.godebug=none:=by kernel_rfl
theorem Tryz.laidOut:laidOutB Tryz.prog=true:=by kernel_rfl
theorem Z5:K2 Tryz.prog 3 [.int .i64]:=K2.int Tryz.underlying3
theorem XX:K2 Tryz.prog 89 sB:=K2.struct Tryz.underlying89 (by kernel_rfl) (by kernel_rfl) (by kernel_rfl)
theorem Z8 (xs:List (Int×Int×Int×Int×Bool)):List.map (fun b:BthG=>(b.seats,b.price,b.cycle,b.pause,b.fill)) (List.map (fun x:Int×Int×Int×Int×Bool=>(⟨x.1,x.2.1,x.2.2.1,x.2.2.2.1,x.2.2.2.2⟩:BthG)) xs)=xs:=by
 rw [List.map_map]
 exact List.map_id _
section
variable {H:Type} {enc:TypeId×Value→H} {W:World} {sp:Nat→Bool} {hd:Bool}
set_option maxRecDepth 100000 in
theorem JL {n:Nat} {v:Value} {y:DataW H×List MemPlace} (h:DataW.trod enc Tryz.prog W 0 sp hd n 26 [v]=some y):∃ A n c xs,v=.slice A n c∧n≤c∧RdS [.int .i64] (Ir W) A n xs :=
 Gm Tryz.underlying26 Z5 (by kernel_rfl) (by decide) h
end
end Go.Proofs.YthhadkggldcolaaGreat
