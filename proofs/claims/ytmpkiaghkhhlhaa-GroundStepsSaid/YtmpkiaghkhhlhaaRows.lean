/-
  No cell of these rows narrows 'for every input' (looked for: loops, veiled, ifaces, maps, wideKeys, modest, calm, conditions, laid).
  DERIVED. THE GIVEN ROWS OF THIS SEAT. 10 by the template 'for every input the law returns true; each argument reads behind the call as it read before'; 0 by the template 'total and deterministic' (their statements: YtmpkiaghkhhlhaaTotals.lean).
  GIVEN WITH THE SEED: the statements are not yours to turn. If you find one false, say at which input.
  Laid BY PROGRAM, IN A SANDBOX (cutbox-rows.mjs): the forced cells as the released guide's own fill.sh prints them over the translation b070cd022df93fd1… (all of the seat's roots in one cut). By AI agents, Wed Nov 11 2026. No macro, syntax, notation, axiom, sorry.
-/
import Derived.Test.YtmpkiaghkhhlhaaChecked
import GoSem.Claim
import GoSem.ClaimJoined
import GoSem.ClaimMapViews
import Derived.JoinedTies
import Derived.KernelRfl
namespace Go.Proofs.Ytmpkiaghkhhlhaa
/- THE CELL 'sum', in the pinned program and in every row, IS THE sha256 OF THE DUMP (.gsa) THAT YtmpkiaghkhhlhaaProg.lean LOADS. Nothing in Lean hashes anything: it is a label: what it is worth is what the hold of that sum in a sandbox is worth. -/
noncomputable def Try.pinned : Pinned := { name := "ytmpkiaghkhhlhaa", sum := "b070cd022df93fd125a57a4ce43f360e8e556228fa305a488f2304fdb77a8f16", checked := Try.checked }
namespace Rows
def none {H : Type} : Left H := { results := [], args := [] }

/-- 'waltzerlaw04.GroundCables': WHATEVER THE INPUT: true; the input reads as it did. -/
def groundCablesSpec : ChangeSpec := { name := "groundCables", fn := fun _ => fun
  | [d1, d2, d3] => { results := [.lit (.bool true)], args := [d1, d2, d3] }
  | _ => none }
def groundCablesRow : OpenClaim := { program := "ytmpkiaghkhhlhaa", sum := "b070cd022df93fd125a57a4ce43f360e8e556228fa305a488f2304fdb77a8f16", func := "waltzer/waltzerlaw04.GroundCables", spec := "groundCables", unfollowed := true, recurses := true, apart := false }
def GroundCablesSaid : Prop := groundCablesRow.holds Try.pinned (OpenSpec.ofChange groundCablesSpec)

/-- ITS FALSE NEIGHBOUR: 'it returns false'. Refute it at one input. -/
def groundCablesWrong : ChangeSpec := { name := "groundCables", fn := fun _ => fun
  | [d1, d2, d3] => { results := [.lit (.bool false)], args := [d1, d2, d3] }
  | _ => none }
def GroundCablesWrongFalsely : Prop := groundCablesRow.holds Try.pinned (OpenSpec.ofChange groundCablesWrong)

/-- 'waltzerlaw04.GroundCheapest': WHATEVER THE INPUT: true; the input reads as it did. -/
def groundCheapestSpec : ChangeSpec := { name := "groundCheapest", fn := fun _ => fun
  | [d1, d2, d3] => { results := [.lit (.bool true)], args := [d1, d2, d3] }
  | _ => none }
def groundCheapestRow : OpenClaim := { program := "ytmpkiaghkhhlhaa", sum := "b070cd022df93fd125a57a4ce43f360e8e556228fa305a488f2304fdb77a8f16", func := "waltzer/waltzerlaw04.GroundCheapest", spec := "groundCheapest", unfollowed := true, recurses := true, apart := false }
def GroundCheapestSaid : Prop := groundCheapestRow.holds Try.pinned (OpenSpec.ofChange groundCheapestSpec)

/-- ITS FALSE NEIGHBOUR: 'it returns false'. Refute it at one input. -/
def groundCheapestWrong : ChangeSpec := { name := "groundCheapest", fn := fun _ => fun
  | [d1, d2, d3] => { results := [.lit (.bool false)], args := [d1, d2, d3] }
  | _ => none }
def GroundCheapestWrongFalsely : Prop := groundCheapestRow.holds Try.pinned (OpenSpec.ofChange groundCheapestWrong)

/-- 'waltzerlaw04.GroundSites': WHATEVER THE INPUT: true; the input reads as it did. -/
def groundSitesSpec : ChangeSpec := { name := "groundSites", fn := fun _ => fun
  | [d1, d2, d3] => { results := [.lit (.bool true)], args := [d1, d2, d3] }
  | _ => none }
def groundSitesRow : OpenClaim := { program := "ytmpkiaghkhhlhaa", sum := "b070cd022df93fd125a57a4ce43f360e8e556228fa305a488f2304fdb77a8f16", func := "waltzer/waltzerlaw04.GroundSites", spec := "groundSites", unfollowed := true, recurses := true, apart := false }
def GroundSitesSaid : Prop := groundSitesRow.holds Try.pinned (OpenSpec.ofChange groundSitesSpec)

/-- ITS FALSE NEIGHBOUR: 'it returns false'. Refute it at one input. -/
def groundSitesWrong : ChangeSpec := { name := "groundSites", fn := fun _ => fun
  | [d1, d2, d3] => { results := [.lit (.bool false)], args := [d1, d2, d3] }
  | _ => none }
def GroundSitesWrongFalsely : Prop := groundSitesRow.holds Try.pinned (OpenSpec.ofChange groundSitesWrong)

/-- 'waltzerlaw04.GroundRights': WHATEVER THE INPUT: true; the input reads as it did. -/
def groundRightsSpec : ChangeSpec := { name := "groundRights", fn := fun _ => fun
  | [d1, d2] => { results := [.lit (.bool true)], args := [d1, d2] }
  | _ => none }
def groundRightsRow : OpenClaim := { program := "ytmpkiaghkhhlhaa", sum := "b070cd022df93fd125a57a4ce43f360e8e556228fa305a488f2304fdb77a8f16", func := "waltzer/waltzerlaw04.GroundRights", spec := "groundRights", unfollowed := true, recurses := true, apart := false }
def GroundRightsSaid : Prop := groundRightsRow.holds Try.pinned (OpenSpec.ofChange groundRightsSpec)

/-- ITS FALSE NEIGHBOUR: 'it returns false'. Refute it at one input. -/
def groundRightsWrong : ChangeSpec := { name := "groundRights", fn := fun _ => fun
  | [d1, d2] => { results := [.lit (.bool false)], args := [d1, d2] }
  | _ => none }
def GroundRightsWrongFalsely : Prop := groundRightsRow.holds Try.pinned (OpenSpec.ofChange groundRightsWrong)

/-- 'waltzerlaw04.GroundLays': WHATEVER THE INPUT: true; the input reads as it did. -/
def groundLaysSpec : ChangeSpec := { name := "groundLays", fn := fun _ => fun
  | [d1, d2] => { results := [.lit (.bool true)], args := [d1, d2] }
  | _ => none }
def groundLaysRow : OpenClaim := { program := "ytmpkiaghkhhlhaa", sum := "b070cd022df93fd125a57a4ce43f360e8e556228fa305a488f2304fdb77a8f16", func := "waltzer/waltzerlaw04.GroundLays", spec := "groundLays", unfollowed := true, recurses := true, apart := false }
def GroundLaysSaid : Prop := groundLaysRow.holds Try.pinned (OpenSpec.ofChange groundLaysSpec)

/-- ITS FALSE NEIGHBOUR: 'it returns false'. Refute it at one input. -/
def groundLaysWrong : ChangeSpec := { name := "groundLays", fn := fun _ => fun
  | [d1, d2] => { results := [.lit (.bool false)], args := [d1, d2] }
  | _ => none }
def GroundLaysWrongFalsely : Prop := groundLaysRow.holds Try.pinned (OpenSpec.ofChange groundLaysWrong)

/-- 'waltzerlaw04.GroundFirst': WHATEVER THE INPUT: true; the input reads as it did. -/
def groundFirstSpec : ChangeSpec := { name := "groundFirst", fn := fun _ => fun
  | [d1, d2, d3] => { results := [.lit (.bool true)], args := [d1, d2, d3] }
  | _ => none }
def groundFirstRow : OpenClaim := { program := "ytmpkiaghkhhlhaa", sum := "b070cd022df93fd125a57a4ce43f360e8e556228fa305a488f2304fdb77a8f16", func := "waltzer/waltzerlaw04.GroundFirst", spec := "groundFirst", unfollowed := true, recurses := true, apart := false }
def GroundFirstSaid : Prop := groundFirstRow.holds Try.pinned (OpenSpec.ofChange groundFirstSpec)

/-- ITS FALSE NEIGHBOUR: 'it returns false'. Refute it at one input. -/
def groundFirstWrong : ChangeSpec := { name := "groundFirst", fn := fun _ => fun
  | [d1, d2, d3] => { results := [.lit (.bool false)], args := [d1, d2, d3] }
  | _ => none }
def GroundFirstWrongFalsely : Prop := groundFirstRow.holds Try.pinned (OpenSpec.ofChange groundFirstWrong)

/-- 'waltzerlaw04.GroundChecks': WHATEVER THE INPUT: true; the input reads as it did. -/
def groundChecksSpec : ChangeSpec := { name := "groundChecks", fn := fun _ => fun
  | [d1, d2, d3] => { results := [.lit (.bool true)], args := [d1, d2, d3] }
  | _ => none }
def groundChecksRow : OpenClaim := { program := "ytmpkiaghkhhlhaa", sum := "b070cd022df93fd125a57a4ce43f360e8e556228fa305a488f2304fdb77a8f16", func := "waltzer/waltzerlaw04.GroundChecks", spec := "groundChecks", unfollowed := true, recurses := true, apart := false }
def GroundChecksSaid : Prop := groundChecksRow.holds Try.pinned (OpenSpec.ofChange groundChecksSpec)

/-- ITS FALSE NEIGHBOUR: 'it returns false'. Refute it at one input. -/
def groundChecksWrong : ChangeSpec := { name := "groundChecks", fn := fun _ => fun
  | [d1, d2, d3] => { results := [.lit (.bool false)], args := [d1, d2, d3] }
  | _ => none }
def GroundChecksWrongFalsely : Prop := groundChecksRow.holds Try.pinned (OpenSpec.ofChange groundChecksWrong)

/-- 'waltzerlaw04.GroundSteps': WHATEVER THE INPUT: true; the input reads as it did. -/
def groundStepsSpec : ChangeSpec := { name := "groundSteps", fn := fun _ => fun
  | [d1, d2, d3] => { results := [.lit (.bool true)], args := [d1, d2, d3] }
  | _ => none }
def groundStepsRow : OpenClaim := { program := "ytmpkiaghkhhlhaa", sum := "b070cd022df93fd125a57a4ce43f360e8e556228fa305a488f2304fdb77a8f16", func := "waltzer/waltzerlaw04.GroundSteps", spec := "groundSteps", unfollowed := true, recurses := true, apart := false }
def GroundStepsSaid : Prop := groundStepsRow.holds Try.pinned (OpenSpec.ofChange groundStepsSpec)

/-- ITS FALSE NEIGHBOUR: 'it returns false'. Refute it at one input. -/
def groundStepsWrong : ChangeSpec := { name := "groundSteps", fn := fun _ => fun
  | [d1, d2, d3] => { results := [.lit (.bool false)], args := [d1, d2, d3] }
  | _ => none }
def GroundStepsWrongFalsely : Prop := groundStepsRow.holds Try.pinned (OpenSpec.ofChange groundStepsWrong)

/-- 'waltzerlaw04.GroundTraps': WHATEVER THE INPUT: true; the input reads as it did. -/
def groundTrapsSpec : ChangeSpec := { name := "groundTraps", fn := fun _ => fun
  | [d1, d2, d3] => { results := [.lit (.bool true)], args := [d1, d2, d3] }
  | _ => none }
def groundTrapsRow : OpenClaim := { program := "ytmpkiaghkhhlhaa", sum := "b070cd022df93fd125a57a4ce43f360e8e556228fa305a488f2304fdb77a8f16", func := "waltzer/waltzerlaw04.GroundTraps", spec := "groundTraps", unfollowed := true, recurses := true, apart := false }
def GroundTrapsSaid : Prop := groundTrapsRow.holds Try.pinned (OpenSpec.ofChange groundTrapsSpec)

/-- ITS FALSE NEIGHBOUR: 'it returns false'. Refute it at one input. -/
def groundTrapsWrong : ChangeSpec := { name := "groundTraps", fn := fun _ => fun
  | [d1, d2, d3] => { results := [.lit (.bool false)], args := [d1, d2, d3] }
  | _ => none }
def GroundTrapsWrongFalsely : Prop := groundTrapsRow.holds Try.pinned (OpenSpec.ofChange groundTrapsWrong)

/-- 'waltzerlaw04.GroundLeaves': WHATEVER THE INPUT: true; the input reads as it did. -/
def groundLeavesSpec : ChangeSpec := { name := "groundLeaves", fn := fun _ => fun
  | [d1, d2, d3] => { results := [.lit (.bool true)], args := [d1, d2, d3] }
  | _ => none }
def groundLeavesRow : OpenClaim := { program := "ytmpkiaghkhhlhaa", sum := "b070cd022df93fd125a57a4ce43f360e8e556228fa305a488f2304fdb77a8f16", func := "waltzer/waltzerlaw04.GroundLeaves", spec := "groundLeaves", unfollowed := true, recurses := true, apart := false }
def GroundLeavesSaid : Prop := groundLeavesRow.holds Try.pinned (OpenSpec.ofChange groundLeavesSpec)

/-- ITS FALSE NEIGHBOUR: 'it returns false'. Refute it at one input. -/
def groundLeavesWrong : ChangeSpec := { name := "groundLeaves", fn := fun _ => fun
  | [d1, d2, d3] => { results := [.lit (.bool false)], args := [d1, d2, d3] }
  | _ => none }
def GroundLeavesWrongFalsely : Prop := groundLeavesRow.holds Try.pinned (OpenSpec.ofChange groundLeavesWrong)

/- THE SECOND FORM. 'bulk': how many values and letters a reading holds, each counted each time it is reached (what is shared counts as often as it is met; a slice's spare places count too). A statement '..UptoSaid' is the law's where the arguments, and the package variables that the reading takes, are together of bulk at most 1048576: NARROWER than '..Said'. Prove '..Said' where nothing that the law and all that it calls make is longer than what came in: it says more and counts as full. Else prove '..UptoSaid'. A law counts once. -/
mutual
def uptoBulk {H : Type} : DataW H → Nat
  | .lit (.string bytes) => bytes.length + 1
  | .lit _ => 1
  | .nil => 1
  | .ptr d => uptoBulk d + 1
  | .slice elems spare => uptoBulkAll elems + uptoBulkAll spare + 1
  | .agg parts => uptoBulkAll parts + 1
  | .iface _ d => uptoBulk d + 1
  | .map entries => uptoBulkEntries entries + 1
  | .held _ => 1
def uptoBulkAll {H : Type} : List (DataW H) → Nat
  | [] => 0
  | d :: r => uptoBulk d + uptoBulkAll r
def uptoBulkEntries {H : Type} : List (Lit × DataW H) → Nat
  | [] => 0
  | x :: r => uptoBulkEntry x + uptoBulkEntries r
def uptoBulkEntry {H : Type} : Lit × DataW H → Nat
  | (.string bytes, d) => bytes.length + uptoBulk d + 1
  | (_, d) => uptoBulk d + 1
 end
def uptoSmall : (H : Type) → List (DataW H) → Bool := fun _ ds => decide (uptoBulkAll ds ≤ 1048576)
def OpenSpec.upto (s : _root_.Go.ChangeSpec) : _root_.Go.OpenSpec := { _root_.Go.OpenSpec.ofChange s with cond := some uptoSmall }

/-- 'waltzerlaw04.GroundCables', WHERE WHAT IT READS IS OF BULK AT MOST 1048576: true; the input reads as it did. -/
def groundCablesUptoRow : OpenClaim := { program := "ytmpkiaghkhhlhaa", sum := "b070cd022df93fd125a57a4ce43f360e8e556228fa305a488f2304fdb77a8f16", func := "waltzer/waltzerlaw04.GroundCables", spec := "groundCables", unfollowed := true, recurses := true, apart := false, narrowed := true }
def GroundCablesUptoSaid : Prop := groundCablesUptoRow.holds Try.pinned (OpenSpec.upto groundCablesSpec)

/-- 'waltzerlaw04.GroundCheapest', WHERE WHAT IT READS IS OF BULK AT MOST 1048576: true; the input reads as it did. -/
def groundCheapestUptoRow : OpenClaim := { program := "ytmpkiaghkhhlhaa", sum := "b070cd022df93fd125a57a4ce43f360e8e556228fa305a488f2304fdb77a8f16", func := "waltzer/waltzerlaw04.GroundCheapest", spec := "groundCheapest", unfollowed := true, recurses := true, apart := false, narrowed := true }
def GroundCheapestUptoSaid : Prop := groundCheapestUptoRow.holds Try.pinned (OpenSpec.upto groundCheapestSpec)

/-- 'waltzerlaw04.GroundSites', WHERE WHAT IT READS IS OF BULK AT MOST 1048576: true; the input reads as it did. -/
def groundSitesUptoRow : OpenClaim := { program := "ytmpkiaghkhhlhaa", sum := "b070cd022df93fd125a57a4ce43f360e8e556228fa305a488f2304fdb77a8f16", func := "waltzer/waltzerlaw04.GroundSites", spec := "groundSites", unfollowed := true, recurses := true, apart := false, narrowed := true }
def GroundSitesUptoSaid : Prop := groundSitesUptoRow.holds Try.pinned (OpenSpec.upto groundSitesSpec)

/-- 'waltzerlaw04.GroundRights', WHERE WHAT IT READS IS OF BULK AT MOST 1048576: true; the input reads as it did. -/
def groundRightsUptoRow : OpenClaim := { program := "ytmpkiaghkhhlhaa", sum := "b070cd022df93fd125a57a4ce43f360e8e556228fa305a488f2304fdb77a8f16", func := "waltzer/waltzerlaw04.GroundRights", spec := "groundRights", unfollowed := true, recurses := true, apart := false, narrowed := true }
def GroundRightsUptoSaid : Prop := groundRightsUptoRow.holds Try.pinned (OpenSpec.upto groundRightsSpec)

/-- 'waltzerlaw04.GroundLays', WHERE WHAT IT READS IS OF BULK AT MOST 1048576: true; the input reads as it did. -/
def groundLaysUptoRow : OpenClaim := { program := "ytmpkiaghkhhlhaa", sum := "b070cd022df93fd125a57a4ce43f360e8e556228fa305a488f2304fdb77a8f16", func := "waltzer/waltzerlaw04.GroundLays", spec := "groundLays", unfollowed := true, recurses := true, apart := false, narrowed := true }
def GroundLaysUptoSaid : Prop := groundLaysUptoRow.holds Try.pinned (OpenSpec.upto groundLaysSpec)

/-- 'waltzerlaw04.GroundFirst', WHERE WHAT IT READS IS OF BULK AT MOST 1048576: true; the input reads as it did. -/
def groundFirstUptoRow : OpenClaim := { program := "ytmpkiaghkhhlhaa", sum := "b070cd022df93fd125a57a4ce43f360e8e556228fa305a488f2304fdb77a8f16", func := "waltzer/waltzerlaw04.GroundFirst", spec := "groundFirst", unfollowed := true, recurses := true, apart := false, narrowed := true }
def GroundFirstUptoSaid : Prop := groundFirstUptoRow.holds Try.pinned (OpenSpec.upto groundFirstSpec)

/-- 'waltzerlaw04.GroundChecks', WHERE WHAT IT READS IS OF BULK AT MOST 1048576: true; the input reads as it did. -/
def groundChecksUptoRow : OpenClaim := { program := "ytmpkiaghkhhlhaa", sum := "b070cd022df93fd125a57a4ce43f360e8e556228fa305a488f2304fdb77a8f16", func := "waltzer/waltzerlaw04.GroundChecks", spec := "groundChecks", unfollowed := true, recurses := true, apart := false, narrowed := true }
def GroundChecksUptoSaid : Prop := groundChecksUptoRow.holds Try.pinned (OpenSpec.upto groundChecksSpec)

/-- 'waltzerlaw04.GroundSteps', WHERE WHAT IT READS IS OF BULK AT MOST 1048576: true; the input reads as it did. -/
def groundStepsUptoRow : OpenClaim := { program := "ytmpkiaghkhhlhaa", sum := "b070cd022df93fd125a57a4ce43f360e8e556228fa305a488f2304fdb77a8f16", func := "waltzer/waltzerlaw04.GroundSteps", spec := "groundSteps", unfollowed := true, recurses := true, apart := false, narrowed := true }
def GroundStepsUptoSaid : Prop := groundStepsUptoRow.holds Try.pinned (OpenSpec.upto groundStepsSpec)

/-- 'waltzerlaw04.GroundTraps', WHERE WHAT IT READS IS OF BULK AT MOST 1048576: true; the input reads as it did. -/
def groundTrapsUptoRow : OpenClaim := { program := "ytmpkiaghkhhlhaa", sum := "b070cd022df93fd125a57a4ce43f360e8e556228fa305a488f2304fdb77a8f16", func := "waltzer/waltzerlaw04.GroundTraps", spec := "groundTraps", unfollowed := true, recurses := true, apart := false, narrowed := true }
def GroundTrapsUptoSaid : Prop := groundTrapsUptoRow.holds Try.pinned (OpenSpec.upto groundTrapsSpec)

/-- 'waltzerlaw04.GroundLeaves', WHERE WHAT IT READS IS OF BULK AT MOST 1048576: true; the input reads as it did. -/
def groundLeavesUptoRow : OpenClaim := { program := "ytmpkiaghkhhlhaa", sum := "b070cd022df93fd125a57a4ce43f360e8e556228fa305a488f2304fdb77a8f16", func := "waltzer/waltzerlaw04.GroundLeaves", spec := "groundLeaves", unfollowed := true, recurses := true, apart := false, narrowed := true }
def GroundLeavesUptoSaid : Prop := groundLeavesUptoRow.holds Try.pinned (OpenSpec.upto groundLeavesSpec)

end Rows
end Go.Proofs.Ytmpkiaghkhhlhaa
