/- Trimmed by wip/trim.py to what this claim rests on. -/
import Derived.Test.YtoelhdjloaknbaaGreatOJa1
import Derived.Test.YtoelhdjloaknbaaGreatOB16
namespace Go.Proofs.YtoelhdjloaknbaaGreat
set_option maxRecDepth 100000
open Go.RowKit Go.ChangeShapes Go.WideShapes Go.Deep Go.Joins
theorem Tryz.own:ownKnob Tryz.prog.godebug=none:=by kernel_rfl
theorem Tryz.laidOut:laidOutB Tryz.prog=true:=by kernel_rfl
theorem AaT:Lr Tryz.prog 3 [.int .i64]:=Lr.int Tryz.underlying3
theorem Yt:Lr Tryz.prog 77 sB:=Lr.struct Tryz.underlying77 (by kernel_rfl) (by kernel_rfl) (by kernel_rfl)
theorem Aa8 (xs:List (Int×Int×Int×Int×Bool)):List.map (fun b:BthG=>(b.seats,b.price,b.cycle,b.pause,b.fill)) (List.map (fun x:Int×Int×Int×Int×Bool=>(⟨x.1,x.2.1,x.2.2.1,x.2.2.2.1,x.2.2.2.2⟩:BthG)) xs)=xs:=by
 rw [List.map_map]
 exact List.map_id _
section
variable {H:Type} {enc:TypeId×Value->H} {W:World} {sp:Nat->Bool} {hd:Bool}
theorem Wt {t e:TypeId} {v:Value} {d:DataW H} {p:List MemPlace} {b0:Nat} (ht:Tryz.prog.underlying t=some (.slice e)) (hv:Value.okWide Tryz.prog W .any b0 t v) (h:DataW.Trod enc Tryz.prog W 0 sp hd t v d p):∃ n,DataW.trod enc Tryz.prog W 0 sp hd n t [v]=some (d,p):=by
 obtain ⟨a,len,cap,rfl⟩:=okWide_slice ht hv
 exact h
theorem G1 {n:Nat} {v:Value} {y:DataW H×List MemPlace} (h:DataW.trod enc Tryz.prog W 0 sp hd n 26 [v]=some y):∃ A n c xs,v=.slice A n c/\n<=c/\RdS [.int .i64] (Hn W) A n xs:=
 Gp Tryz.underlying26 AaT (by kernel_rfl) (by decide) h
end
end Go.Proofs.YtoelhdjloaknbaaGreat
