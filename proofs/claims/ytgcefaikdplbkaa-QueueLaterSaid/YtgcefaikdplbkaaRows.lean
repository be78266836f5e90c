/-
  No cell of these rows narrows 'for every input' (looked for: loops, veiled, ifaces, maps, wideKeys, modest, calm, conditions, laid).
  DERIVED. THE GIVEN ROWS OF THIS SEAT. 9 by the template 'for every input the law returns true; each argument reads behind the call as it read before'; 0 by the template 'total and deterministic' (their statements: YtgcefaikdplbkaaTotals.lean).
  GIVEN WITH THE SEED: the statements are not yours to turn. If you find one false, say at which input.
  Laid BY PROGRAM, IN A SANDBOX (cutbox-rows.mjs): the forced cells as the released guide's own fill.sh prints them over the translation 2d1bac5f954d552e… (all of the seat's roots in one cut). By AI agents, Wed Nov 11 2026. No macro, syntax, notation, axiom, sorry.
-/
import Derived.Test.YtgcefaikdplbkaaChecked
import GoSem.Claim
import GoSem.ClaimJoined
import GoSem.ClaimMapViews
import Derived.JoinedTies
import Derived.KernelRfl
namespace Go.Proofs.Ytgcefaikdplbkaa
/- THE CELL 'sum', in the pinned program and in every row, IS THE sha256 OF THE DUMP (.gsa) THAT YtgcefaikdplbkaaProg.lean LOADS. Nothing in Lean hashes anything: it is a label: what it is worth is what the hold of that sum in a sandbox is worth. -/
noncomputable def Try.pinned : Pinned := { name := "ytgcefaikdplbkaa", sum := "2d1bac5f954d552e18c0f9a28f08f2b8aac42e19f0ca0911a83b3c40122654e8", checked := Try.checked }
namespace Rows
def none {H : Type} : Left H := { results := [], args := [] }

/-- 'waltzerlaw07.QueueChecks': WHATEVER THE INPUT: true; the input reads as it did. -/
def queueChecksSpec : ChangeSpec := { name := "queueChecks", fn := fun _ => fun
  | [d1, d2] => { results := [.lit (.bool true)], args := [d1, d2] }
  | _ => none }
def queueChecksRow : OpenClaim := { program := "ytgcefaikdplbkaa", sum := "2d1bac5f954d552e18c0f9a28f08f2b8aac42e19f0ca0911a83b3c40122654e8", func := "waltzer/waltzerlaw07.QueueChecks", spec := "queueChecks", unfollowed := true, recurses := true, apart := false }
def QueueChecksSaid : Prop := queueChecksRow.holds Try.pinned (OpenSpec.ofChange queueChecksSpec)

/-- ITS FALSE NEIGHBOUR: 'it returns false'. Refute it at one input. -/
def queueChecksWrong : ChangeSpec := { name := "queueChecks", fn := fun _ => fun
  | [d1, d2] => { results := [.lit (.bool false)], args := [d1, d2] }
  | _ => none }
def QueueChecksWrongFalsely : Prop := queueChecksRow.holds Try.pinned (OpenSpec.ofChange queueChecksWrong)

/-- 'waltzerlaw07.QueueHome': WHATEVER THE INPUT: true; the input reads as it did. -/
def queueHomeSpec : ChangeSpec := { name := "queueHome", fn := fun _ => fun
  | [d1, d2] => { results := [.lit (.bool true)], args := [d1, d2] }
  | _ => none }
def queueHomeRow : OpenClaim := { program := "ytgcefaikdplbkaa", sum := "2d1bac5f954d552e18c0f9a28f08f2b8aac42e19f0ca0911a83b3c40122654e8", func := "waltzer/waltzerlaw07.QueueHome", spec := "queueHome", unfollowed := true, recurses := true, apart := false }
def QueueHomeSaid : Prop := queueHomeRow.holds Try.pinned (OpenSpec.ofChange queueHomeSpec)

/-- ITS FALSE NEIGHBOUR: 'it returns false'. Refute it at one input. -/
def queueHomeWrong : ChangeSpec := { name := "queueHome", fn := fun _ => fun
  | [d1, d2] => { results := [.lit (.bool false)], args := [d1, d2] }
  | _ => none }
def QueueHomeWrongFalsely : Prop := queueHomeRow.holds Try.pinned (OpenSpec.ofChange queueHomeWrong)

/-- 'waltzerlaw07.QueueTakes': WHATEVER THE INPUT: true; the input reads as it did. -/
def queueTakesSpec : ChangeSpec := { name := "queueTakes", fn := fun _ => fun
  | [d1, d2] => { results := [.lit (.bool true)], args := [d1, d2] }
  | _ => none }
def queueTakesRow : OpenClaim := { program := "ytgcefaikdplbkaa", sum := "2d1bac5f954d552e18c0f9a28f08f2b8aac42e19f0ca0911a83b3c40122654e8", func := "waltzer/waltzerlaw07.QueueTakes", spec := "queueTakes", unfollowed := true, recurses := true, apart := false }
def QueueTakesSaid : Prop := queueTakesRow.holds Try.pinned (OpenSpec.ofChange queueTakesSpec)

/-- ITS FALSE NEIGHBOUR: 'it returns false'. Refute it at one input. -/
def queueTakesWrong : ChangeSpec := { name := "queueTakes", fn := fun _ => fun
  | [d1, d2] => { results := [.lit (.bool false)], args := [d1, d2] }
  | _ => none }
def QueueTakesWrongFalsely : Prop := queueTakesRow.holds Try.pinned (OpenSpec.ofChange queueTakesWrong)

/-- 'waltzerlaw07.QueuePlays': WHATEVER THE INPUT: true; the input reads as it did. -/
def queuePlaysSpec : ChangeSpec := { name := "queuePlays", fn := fun _ => fun
  | [d1, d2] => { results := [.lit (.bool true)], args := [d1, d2] }
  | _ => none }
def queuePlaysRow : OpenClaim := { program := "ytgcefaikdplbkaa", sum := "2d1bac5f954d552e18c0f9a28f08f2b8aac42e19f0ca0911a83b3c40122654e8", func := "waltzer/waltzerlaw07.QueuePlays", spec := "queuePlays", unfollowed := true, recurses := true, apart := false }
def QueuePlaysSaid : Prop := queuePlaysRow.holds Try.pinned (OpenSpec.ofChange queuePlaysSpec)

/-- ITS FALSE NEIGHBOUR: 'it returns false'. Refute it at one input. -/
def queuePlaysWrong : ChangeSpec := { name := "queuePlays", fn := fun _ => fun
  | [d1, d2] => { results := [.lit (.bool false)], args := [d1, d2] }
  | _ => none }
def QueuePlaysWrongFalsely : Prop := queuePlaysRow.holds Try.pinned (OpenSpec.ofChange queuePlaysWrong)

/-- 'waltzerlaw07.QueueSeats': WHATEVER THE INPUT: true; the input reads as it did. -/
def queueSeatsSpec : ChangeSpec := { name := "queueSeats", fn := fun _ => fun
  | [d1, d2] => { results := [.lit (.bool true)], args := [d1, d2] }
  | _ => none }
def queueSeatsRow : OpenClaim := { program := "ytgcefaikdplbkaa", sum := "2d1bac5f954d552e18c0f9a28f08f2b8aac42e19f0ca0911a83b3c40122654e8", func := "waltzer/waltzerlaw07.QueueSeats", spec := "queueSeats", unfollowed := true, recurses := true, apart := false }
def QueueSeatsSaid : Prop := queueSeatsRow.holds Try.pinned (OpenSpec.ofChange queueSeatsSpec)

/-- ITS FALSE NEIGHBOUR: 'it returns false'. Refute it at one input. -/
def queueSeatsWrong : ChangeSpec := { name := "queueSeats", fn := fun _ => fun
  | [d1, d2] => { results := [.lit (.bool false)], args := [d1, d2] }
  | _ => none }
def QueueSeatsWrongFalsely : Prop := queueSeatsRow.holds Try.pinned (OpenSpec.ofChange queueSeatsWrong)

/-- 'waltzerlaw07.QueueFair': WHATEVER THE INPUT: true; the input reads as it did. -/
def queueFairSpec : ChangeSpec := { name := "queueFair", fn := fun _ => fun
  | [d1, d2] => { results := [.lit (.bool true)], args := [d1, d2] }
  | _ => none }
def queueFairRow : OpenClaim := { program := "ytgcefaikdplbkaa", sum := "2d1bac5f954d552e18c0f9a28f08f2b8aac42e19f0ca0911a83b3c40122654e8", func := "waltzer/waltzerlaw07.QueueFair", spec := "queueFair", unfollowed := true, recurses := true, apart := false }
def QueueFairSaid : Prop := queueFairRow.holds Try.pinned (OpenSpec.ofChange queueFairSpec)

/-- ITS FALSE NEIGHBOUR: 'it returns false'. Refute it at one input. -/
def queueFairWrong : ChangeSpec := { name := "queueFair", fn := fun _ => fun
  | [d1, d2] => { results := [.lit (.bool false)], args := [d1, d2] }
  | _ => none }
def QueueFairWrongFalsely : Prop := queueFairRow.holds Try.pinned (OpenSpec.ofChange queueFairWrong)

/-- 'waltzerlaw07.QueueLater': WHATEVER THE INPUT: true; the input reads as it did. -/
def queueLaterSpec : ChangeSpec := { name := "queueLater", fn := fun _ => fun
  | [d1, d2, d3] => { results := [.lit (.bool true)], args := [d1, d2, d3] }
  | _ => none }
def queueLaterRow : OpenClaim := { program := "ytgcefaikdplbkaa", sum := "2d1bac5f954d552e18c0f9a28f08f2b8aac42e19f0ca0911a83b3c40122654e8", func := "waltzer/waltzerlaw07.QueueLater", spec := "queueLater", unfollowed := true, recurses := true, apart := false }
def QueueLaterSaid : Prop := queueLaterRow.holds Try.pinned (OpenSpec.ofChange queueLaterSpec)

/-- ITS FALSE NEIGHBOUR: 'it returns false'. Refute it at one input. -/
def queueLaterWrong : ChangeSpec := { name := "queueLater", fn := fun _ => fun
  | [d1, d2, d3] => { results := [.lit (.bool false)], args := [d1, d2, d3] }
  | _ => none }
def QueueLaterWrongFalsely : Prop := queueLaterRow.holds Try.pinned (OpenSpec.ofChange queueLaterWrong)

/-- 'waltzerlaw07.QueueEnds': WHATEVER THE INPUT: true; the input reads as it did. -/
def queueEndsSpec : ChangeSpec := { name := "queueEnds", fn := fun _ => fun
  | [d1, d2] => { results := [.lit (.bool true)], args := [d1, d2] }
  | _ => none }
def queueEndsRow : OpenClaim := { program := "ytgcefaikdplbkaa", sum := "2d1bac5f954d552e18c0f9a28f08f2b8aac42e19f0ca0911a83b3c40122654e8", func := "waltzer/waltzerlaw07.QueueEnds", spec := "queueEnds", unfollowed := true, recurses := true, apart := false }
def QueueEndsSaid : Prop := queueEndsRow.holds Try.pinned (OpenSpec.ofChange queueEndsSpec)

/-- ITS FALSE NEIGHBOUR: 'it returns false'. Refute it at one input. -/
def queueEndsWrong : ChangeSpec := { name := "queueEnds", fn := fun _ => fun
  | [d1, d2] => { results := [.lit (.bool false)], args := [d1, d2] }
  | _ => none }
def QueueEndsWrongFalsely : Prop := queueEndsRow.holds Try.pinned (OpenSpec.ofChange queueEndsWrong)

/-- 'waltzerlaw07.QueueAgrees': WHATEVER THE INPUT: true; the input reads as it did. -/
def queueAgreesSpec : ChangeSpec := { name := "queueAgrees", fn := fun _ => fun
  | [d1, d2] => { results := [.lit (.bool true)], args := [d1, d2] }
  | _ => none }
def queueAgreesRow : OpenClaim := { program := "ytgcefaikdplbkaa", sum := "2d1bac5f954d552e18c0f9a28f08f2b8aac42e19f0ca0911a83b3c40122654e8", func := "waltzer/waltzerlaw07.QueueAgrees", spec := "queueAgrees", unfollowed := true, recurses := true, apart := false }
def QueueAgreesSaid : Prop := queueAgreesRow.holds Try.pinned (OpenSpec.ofChange queueAgreesSpec)

/-- ITS FALSE NEIGHBOUR: 'it returns false'. Refute it at one input. -/
def queueAgreesWrong : ChangeSpec := { name := "queueAgrees", fn := fun _ => fun
  | [d1, d2] => { results := [.lit (.bool false)], args := [d1, d2] }
  | _ => none }
def QueueAgreesWrongFalsely : Prop := queueAgreesRow.holds Try.pinned (OpenSpec.ofChange queueAgreesWrong)

/- THE SECOND FORM. 'bulk': how many values and letters a reading holds, each counted each time it is reached (what is shared counts as often as it is met; a slice's spare places count too). A statement '..UptoSaid' is the law's where the arguments, and the package variables that the reading takes, are together of bulk at most 1048576: NARROWER than '..Said'. Prove '..Said' where nothing that the law and all that it calls make is longer than what came in: it says more and counts as full. Else prove '..UptoSaid'. A law counts once. -/
mutual
def uptoBulk {H : Type} : DataW H → Nat
  | .lit (.string bytes) => bytes.length + 1
  | .lit _ => 1
  | .nil => 1
  | .ptr d => uptoBulk d + 1
  | .slice elems spare => uptoBulkAll elems + uptoBulkAll spare + 1
  | .agg parts => uptoBulkAll parts + 1
  | .iface _ d => uptoBulk d + 1
  | .map entries => uptoBulkEntries entries + 1
  | .held _ => 1
def uptoBulkAll {H : Type} : List (DataW H) → Nat
  | [] => 0
  | d :: r => uptoBulk d + uptoBulkAll r
def uptoBulkEntries {H : Type} : List (Lit × DataW H) → Nat
  | [] => 0
  | x :: r => uptoBulkEntry x + uptoBulkEntries r
def uptoBulkEntry {H : Type} : Lit × DataW H → Nat
  | (.string bytes, d) => bytes.length + uptoBulk d + 1
  | (_, d) => uptoBulk d + 1
 end
def uptoSmall : (H : Type) → List (DataW H) → Bool := fun _ ds => decide (uptoBulkAll ds ≤ 1048576)
def OpenSpec.upto (s : _root_.Go.ChangeSpec) : _root_.Go.OpenSpec := { _root_.Go.OpenSpec.ofChange s with cond := some uptoSmall }

/-- 'waltzerlaw07.QueueChecks', WHERE WHAT IT READS IS OF BULK AT MOST 1048576: true; the input reads as it did. -/
def queueChecksUptoRow : OpenClaim := { program := "ytgcefaikdplbkaa", sum := "2d1bac5f954d552e18c0f9a28f08f2b8aac42e19f0ca0911a83b3c40122654e8", func := "waltzer/waltzerlaw07.QueueChecks", spec := "queueChecks", unfollowed := true, recurses := true, apart := false, narrowed := true }
def QueueChecksUptoSaid : Prop := queueChecksUptoRow.holds Try.pinned (OpenSpec.upto queueChecksSpec)

/-- 'waltzerlaw07.QueueHome', WHERE WHAT IT READS IS OF BULK AT MOST 1048576: true; the input reads as it did. -/
def queueHomeUptoRow : OpenClaim := { program := "ytgcefaikdplbkaa", sum := "2d1bac5f954d552e18c0f9a28f08f2b8aac42e19f0ca0911a83b3c40122654e8", func := "waltzer/waltzerlaw07.QueueHome", spec := "queueHome", unfollowed := true, recurses := true, apart := false, narrowed := true }
def QueueHomeUptoSaid : Prop := queueHomeUptoRow.holds Try.pinned (OpenSpec.upto queueHomeSpec)

/-- 'waltzerlaw07.QueueTakes', WHERE WHAT IT READS IS OF BULK AT MOST 1048576: true; the input reads as it did. -/
def queueTakesUptoRow : OpenClaim := { program := "ytgcefaikdplbkaa", sum := "2d1bac5f954d552e18c0f9a28f08f2b8aac42e19f0ca0911a83b3c40122654e8", func := "waltzer/waltzerlaw07.QueueTakes", spec := "queueTakes", unfollowed := true, recurses := true, apart := false, narrowed := true }
def QueueTakesUptoSaid : Prop := queueTakesUptoRow.holds Try.pinned (OpenSpec.upto queueTakesSpec)

/-- 'waltzerlaw07.QueuePlays', WHERE WHAT IT READS IS OF BULK AT MOST 1048576: true; the input reads as it did. -/
def queuePlaysUptoRow : OpenClaim := { program := "ytgcefaikdplbkaa", sum := "2d1bac5f954d552e18c0f9a28f08f2b8aac42e19f0ca0911a83b3c40122654e8", func := "waltzer/waltzerlaw07.QueuePlays", spec := "queuePlays", unfollowed := true, recurses := true, apart := false, narrowed := true }
def QueuePlaysUptoSaid : Prop := queuePlaysUptoRow.holds Try.pinned (OpenSpec.upto queuePlaysSpec)

/-- 'waltzerlaw07.QueueSeats', WHERE WHAT IT READS IS OF BULK AT MOST 1048576: true; the input reads as it did. -/
def queueSeatsUptoRow : OpenClaim := { program := "ytgcefaikdplbkaa", sum := "2d1bac5f954d552e18c0f9a28f08f2b8aac42e19f0ca0911a83b3c40122654e8", func := "waltzer/waltzerlaw07.QueueSeats", spec := "queueSeats", unfollowed := true, recurses := true, apart := false, narrowed := true }
def QueueSeatsUptoSaid : Prop := queueSeatsUptoRow.holds Try.pinned (OpenSpec.upto queueSeatsSpec)

/-- 'waltzerlaw07.QueueFair', WHERE WHAT IT READS IS OF BULK AT MOST 1048576: true; the input reads as it did. -/
def queueFairUptoRow : OpenClaim := { program := "ytgcefaikdplbkaa", sum := "2d1bac5f954d552e18c0f9a28f08f2b8aac42e19f0ca0911a83b3c40122654e8", func := "waltzer/waltzerlaw07.QueueFair", spec := "queueFair", unfollowed := true, recurses := true, apart := false, narrowed := true }
def QueueFairUptoSaid : Prop := queueFairUptoRow.holds Try.pinned (OpenSpec.upto queueFairSpec)

/-- 'waltzerlaw07.QueueLater', WHERE WHAT IT READS IS OF BULK AT MOST 1048576: true; the input reads as it did. -/
def queueLaterUptoRow : OpenClaim := { program := "ytgcefaikdplbkaa", sum := "2d1bac5f954d552e18c0f9a28f08f2b8aac42e19f0ca0911a83b3c40122654e8", func := "waltzer/waltzerlaw07.QueueLater", spec := "queueLater", unfollowed := true, recurses := true, apart := false, narrowed := true }
def QueueLaterUptoSaid : Prop := queueLaterUptoRow.holds Try.pinned (OpenSpec.upto queueLaterSpec)

/-- 'waltzerlaw07.QueueEnds', WHERE WHAT IT READS IS OF BULK AT MOST 1048576: true; the input reads as it did. -/
def queueEndsUptoRow : OpenClaim := { program := "ytgcefaikdplbkaa", sum := "2d1bac5f954d552e18c0f9a28f08f2b8aac42e19f0ca0911a83b3c40122654e8", func := "waltzer/waltzerlaw07.QueueEnds", spec := "queueEnds", unfollowed := true, recurses := true, apart := false, narrowed := true }
def QueueEndsUptoSaid : Prop := queueEndsUptoRow.holds Try.pinned (OpenSpec.upto queueEndsSpec)

/-- 'waltzerlaw07.QueueAgrees', WHERE WHAT IT READS IS OF BULK AT MOST 1048576: true; the input reads as it did. -/
def queueAgreesUptoRow : OpenClaim := { program := "ytgcefaikdplbkaa", sum := "2d1bac5f954d552e18c0f9a28f08f2b8aac42e19f0ca0911a83b3c40122654e8", func := "waltzer/waltzerlaw07.QueueAgrees", spec := "queueAgrees", unfollowed := true, recurses := true, apart := false, narrowed := true }
def QueueAgreesUptoSaid : Prop := queueAgreesUptoRow.holds Try.pinned (OpenSpec.upto queueAgreesSpec)

end Rows
end Go.Proofs.Ytgcefaikdplbkaa
