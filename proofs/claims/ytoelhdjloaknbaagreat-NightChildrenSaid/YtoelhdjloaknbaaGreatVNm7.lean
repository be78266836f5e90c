/- Trimmed by wip/trim.py to what this claim rests on. -/
import Derived.Test.YtoelhdjloaknbaaGreatVNm3
namespace Go.Proofs.YtoelhdjloaknbaaGreat
open Go.RowKit
section
variable {σ:Hp} {R:List Rp} {w:List Bool}
theorem Wi {i j:Nat} {K:Bool->Hp->Prop} (hm:Uf R) (hi:i<R.length) (hj:j<R.length) (hk:K (BZ R i j) σ):cl Tryz.prog (.func (.func OS) #[] #[]) #[.agg #[.int .i64 (rp R i).1,.int .i64 (rp R i).2.1,.int .i64 (rp R i).2.2],.agg #[.int .i64 (rp R j).1,.int .i64 (rp R j).2.1,.int .i64 (rp R j).2.2]] σ fun v σ'=>∃ t:Bool,(v=.bool t/\K t σ'):=
 clB MS (Aaf (x:=rp R i) (y:=rp R j) (hm i hi) (hm j hj)) hk
end
end Go.Proofs.YtoelhdjloaknbaaGreat
