/-
  No cell of these rows narrows 'for every input' (looked for: loops, veiled, ifaces, maps, wideKeys, modest, calm, conditions, laid).
  DERIVED. THE GIVEN ROWS OF THIS SEAT. 3 by the template 'for every input the law returns true; each argument reads behind the call as it read before'; 0 by the template 'total and deterministic' (their statements: YtgcefaikdplbkaaGreatTotals.lean).
  GIVEN WITH THE SEED: the statements are not yours to turn. If you find one false, say at which input.
  Laid BY PROGRAM, IN A SANDBOX (cutbox-rows.mjs): the forced cells as the released guide's own fill.sh prints them over the translation 982ea1cc6be33608… (all of the seat's roots in one cut). By AI agents, Wed Nov 11 2026. No macro, syntax, notation, axiom, sorry.
-/
import Derived.Test.YtgcefaikdplbkaaGreatChecked
import GoSem.Claim
import GoSem.ClaimJoined
import GoSem.ClaimMapViews
import Derived.JoinedTies
import Derived.KernelRfl
namespace Go.Proofs.YtgcefaikdplbkaaGreat
/- THE CELL 'sum', in the pinned program and in every row, IS THE sha256 OF THE DUMP (.gsa) THAT YtgcefaikdplbkaaGreatProg.lean LOADS. Nothing in Lean hashes anything: it is a label: what it is worth is what the hold of that sum in a sandbox is worth. -/
noncomputable def Tryz.pinned : Pinned := { name := "ytgcefaikdplbkaagreat", sum := "982ea1cc6be3360881d3cc12c255d24e8da379ec9c8894b821408bfa29a9c01c", checked := Tryz.checked }
namespace Rows
def none {H : Type} : Left H := { results := [], args := [] }

/-- 'waltzerlaw07.QueueWaits': WHATEVER THE INPUT: true; the input reads as it did. -/
def queueWaitsSpec : ChangeSpec := { name := "queueWaits", fn := fun _ => fun
  | [d1, d2] => { results := [.lit (.bool true)], args := [d1, d2] }
  | _ => none }
def queueWaitsRow : OpenClaim := { program := "ytgcefaikdplbkaagreat", sum := "982ea1cc6be3360881d3cc12c255d24e8da379ec9c8894b821408bfa29a9c01c", func := "waltzer/waltzerlaw07.QueueWaits", spec := "queueWaits", unfollowed := true, recurses := true, apart := false }
def QueueWaitsSaid : Prop := queueWaitsRow.holds Tryz.pinned (OpenSpec.ofChange queueWaitsSpec)

/-- ITS FALSE NEIGHBOUR: 'it returns false'. Refute it at one input. -/
def queueWaitsWrong : ChangeSpec := { name := "queueWaits", fn := fun _ => fun
  | [d1, d2] => { results := [.lit (.bool false)], args := [d1, d2] }
  | _ => none }
def QueueWaitsWrongFalsely : Prop := queueWaitsRow.holds Tryz.pinned (OpenSpec.ofChange queueWaitsWrong)

/-- 'waltzerlaw07.QueuePrices': WHATEVER THE INPUT: true; the input reads as it did. -/
def queuePricesSpec : ChangeSpec := { name := "queuePrices", fn := fun _ => fun
  | [d1, d2, d3] => { results := [.lit (.bool true)], args := [d1, d2, d3] }
  | _ => none }
def queuePricesRow : OpenClaim := { program := "ytgcefaikdplbkaagreat", sum := "982ea1cc6be3360881d3cc12c255d24e8da379ec9c8894b821408bfa29a9c01c", func := "waltzer/waltzerlaw07.QueuePrices", spec := "queuePrices", unfollowed := true, recurses := true, apart := false }
def QueuePricesSaid : Prop := queuePricesRow.holds Tryz.pinned (OpenSpec.ofChange queuePricesSpec)

/-- ITS FALSE NEIGHBOUR: 'it returns false'. Refute it at one input. -/
def queuePricesWrong : ChangeSpec := { name := "queuePrices", fn := fun _ => fun
  | [d1, d2, d3] => { results := [.lit (.bool false)], args := [d1, d2, d3] }
  | _ => none }
def QueuePricesWrongFalsely : Prop := queuePricesRow.holds Tryz.pinned (OpenSpec.ofChange queuePricesWrong)

/-- 'waltzerlaw07.QueueCycles': WHATEVER THE INPUT: true; the input reads as it did. -/
def queueCyclesSpec : ChangeSpec := { name := "queueCycles", fn := fun _ => fun
  | [d1, d2, d3] => { results := [.lit (.bool true)], args := [d1, d2, d3] }
  | _ => none }
def queueCyclesRow : OpenClaim := { program := "ytgcefaikdplbkaagreat", sum := "982ea1cc6be3360881d3cc12c255d24e8da379ec9c8894b821408bfa29a9c01c", func := "waltzer/waltzerlaw07.QueueCycles", spec := "queueCycles", unfollowed := true, recurses := true, apart := false }
def QueueCyclesSaid : Prop := queueCyclesRow.holds Tryz.pinned (OpenSpec.ofChange queueCyclesSpec)

/-- ITS FALSE NEIGHBOUR: 'it returns false'. Refute it at one input. -/
def queueCyclesWrong : ChangeSpec := { name := "queueCycles", fn := fun _ => fun
  | [d1, d2, d3] => { results := [.lit (.bool false)], args := [d1, d2, d3] }
  | _ => none }
def QueueCyclesWrongFalsely : Prop := queueCyclesRow.holds Tryz.pinned (OpenSpec.ofChange queueCyclesWrong)

/- THE SECOND FORM. 'bulk': how many values and letters a reading holds, each counted each time it is reached (what is shared counts as often as it is met; a slice's spare places count too). A statement '..UptoSaid' is the law's where the arguments, and the package variables that the reading takes, are together of bulk at most 1048576: NARROWER than '..Said'. Prove '..Said' where nothing that the law and all that it calls make is longer than what came in: it says more and counts as full. Else prove '..UptoSaid'. A law counts once. -/
mutual
def uptoBulk {H : Type} : DataW H → Nat
  | .lit (.string bytes) => bytes.length + 1
  | .lit _ => 1
  | .nil => 1
  | .ptr d => uptoBulk d + 1
  | .slice elems spare => uptoBulkAll elems + uptoBulkAll spare + 1
  | .agg parts => uptoBulkAll parts + 1
  | .iface _ d => uptoBulk d + 1
  | .map entries => uptoBulkEntries entries + 1
  | .held _ => 1
def uptoBulkAll {H : Type} : List (DataW H) → Nat
  | [] => 0
  | d :: r => uptoBulk d + uptoBulkAll r
def uptoBulkEntries {H : Type} : List (Lit × DataW H) → Nat
  | [] => 0
  | x :: r => uptoBulkEntry x + uptoBulkEntries r
def uptoBulkEntry {H : Type} : Lit × DataW H → Nat
  | (.string bytes, d) => bytes.length + uptoBulk d + 1
  | (_, d) => uptoBulk d + 1
 end
def uptoSmall : (H : Type) → List (DataW H) → Bool := fun _ ds => decide (uptoBulkAll ds ≤ 1048576)
def OpenSpec.upto (s : _root_.Go.ChangeSpec) : _root_.Go.OpenSpec := { _root_.Go.OpenSpec.ofChange s with cond := some uptoSmall }

/-- 'waltzerlaw07.QueueWaits', WHERE WHAT IT READS IS OF BULK AT MOST 1048576: true; the input reads as it did. -/
def queueWaitsUptoRow : OpenClaim := { program := "ytgcefaikdplbkaagreat", sum := "982ea1cc6be3360881d3cc12c255d24e8da379ec9c8894b821408bfa29a9c01c", func := "waltzer/waltzerlaw07.QueueWaits", spec := "queueWaits", unfollowed := true, recurses := true, apart := false, narrowed := true }
def QueueWaitsUptoSaid : Prop := queueWaitsUptoRow.holds Tryz.pinned (OpenSpec.upto queueWaitsSpec)

/-- 'waltzerlaw07.QueuePrices', WHERE WHAT IT READS IS OF BULK AT MOST 1048576: true; the input reads as it did. -/
def queuePricesUptoRow : OpenClaim := { program := "ytgcefaikdplbkaagreat", sum := "982ea1cc6be3360881d3cc12c255d24e8da379ec9c8894b821408bfa29a9c01c", func := "waltzer/waltzerlaw07.QueuePrices", spec := "queuePrices", unfollowed := true, recurses := true, apart := false, narrowed := true }
def QueuePricesUptoSaid : Prop := queuePricesUptoRow.holds Tryz.pinned (OpenSpec.upto queuePricesSpec)

/-- 'waltzerlaw07.QueueCycles', WHERE WHAT IT READS IS OF BULK AT MOST 1048576: true; the input reads as it did. -/
def queueCyclesUptoRow : OpenClaim := { program := "ytgcefaikdplbkaagreat", sum := "982ea1cc6be3360881d3cc12c255d24e8da379ec9c8894b821408bfa29a9c01c", func := "waltzer/waltzerlaw07.QueueCycles", spec := "queueCycles", unfollowed := true, recurses := true, apart := false, narrowed := true }
def QueueCyclesUptoSaid : Prop := queueCyclesUptoRow.holds Tryz.pinned (OpenSpec.upto queueCyclesSpec)

end Rows
end Go.Proofs.YtgcefaikdplbkaaGreat
