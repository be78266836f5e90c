/-
  No cell of these rows narrows 'for every input' (looked for: loops, veiled, ifaces, maps, wideKeys, modest, calm, conditions, laid).
  DERIVED. THE GIVEN ROWS OF THIS SEAT. 13 by the template 'for every input the law returns true; each argument reads behind the call as it read before'; 0 by the template 'total and deterministic' (their statements: YtkdjkkimngeloaaTotals.lean).
  GIVEN WITH THE SEED: the statements are not yours to turn. If you find one false, say at which input.
  Laid BY PROGRAM, IN A SANDBOX (cutbox-rows.mjs): the forced cells as the released guide's own fill.sh prints them over the translation 61e10d935a6573be… (all of the seat's roots in one cut). By AI agents, Wed Nov 11 2026. No macro, syntax, notation, axiom, sorry.
-/
import Derived.Test.YtkdjkkimngeloaaChecked
import GoSem.Claim
import GoSem.ClaimJoined
import GoSem.ClaimMapViews
import Derived.JoinedTies
import Derived.KernelRfl
namespace Go.Proofs.Ytkdjkkimngeloaa
/- THE CELL 'sum', in the pinned program and in every row, IS THE sha256 OF THE DUMP (.gsa) THAT YtkdjkkimngeloaaProg.lean LOADS. Nothing in Lean hashes anything: it is a label: what it is worth is what the hold of that sum in a sandbox is worth. -/
noncomputable def Try.pinned : Pinned := { name := "ytkdjkkimngeloaa", sum := "61e10d935a6573bee9dc74edeb9f43c025febe622cac2ba34f0decd83fa78ce8", checked := Try.checked }
namespace Rows
def none {H : Type} : Left H := { results := [], args := [] }

/-- 'waltzerlaw09.ConvoyDrives': WHATEVER THE INPUT: true; the input reads as it did. -/
def convoyDrivesSpec : ChangeSpec := { name := "convoyDrives", fn := fun _ => fun
  | [d1, d2, d3] => { results := [.lit (.bool true)], args := [d1, d2, d3] }
  | _ => none }
def convoyDrivesRow : OpenClaim := { program := "ytkdjkkimngeloaa", sum := "61e10d935a6573bee9dc74edeb9f43c025febe622cac2ba34f0decd83fa78ce8", func := "waltzer/waltzerlaw09.ConvoyDrives", spec := "convoyDrives", unfollowed := true, recurses := true, plainKeys := false, apart := false }
def ConvoyDrivesSaid : Prop := convoyDrivesRow.holds Try.pinned (OpenSpec.ofChange convoyDrivesSpec)

/-- ITS FALSE NEIGHBOUR: 'it returns false'. Refute it at one input. -/
def convoyDrivesWrong : ChangeSpec := { name := "convoyDrives", fn := fun _ => fun
  | [d1, d2, d3] => { results := [.lit (.bool false)], args := [d1, d2, d3] }
  | _ => none }
def ConvoyDrivesWrongFalsely : Prop := convoyDrivesRow.holds Try.pinned (OpenSpec.ofChange convoyDrivesWrong)

/-- 'waltzerlaw09.ConvoyHighest': WHATEVER THE INPUT: true; the input reads as it did. -/
def convoyHighestSpec : ChangeSpec := { name := "convoyHighest", fn := fun _ => fun
  | [d1, d2, d3] => { results := [.lit (.bool true)], args := [d1, d2, d3] }
  | _ => none }
def convoyHighestRow : OpenClaim := { program := "ytkdjkkimngeloaa", sum := "61e10d935a6573bee9dc74edeb9f43c025febe622cac2ba34f0decd83fa78ce8", func := "waltzer/waltzerlaw09.ConvoyHighest", spec := "convoyHighest", unfollowed := true, recurses := true, plainKeys := false, apart := false }
def ConvoyHighestSaid : Prop := convoyHighestRow.holds Try.pinned (OpenSpec.ofChange convoyHighestSpec)

/-- ITS FALSE NEIGHBOUR: 'it returns false'. Refute it at one input. -/
def convoyHighestWrong : ChangeSpec := { name := "convoyHighest", fn := fun _ => fun
  | [d1, d2, d3] => { results := [.lit (.bool false)], args := [d1, d2, d3] }
  | _ => none }
def ConvoyHighestWrongFalsely : Prop := convoyHighestRow.holds Try.pinned (OpenSpec.ofChange convoyHighestWrong)

/-- 'waltzerlaw09.ConvoyChecks': WHATEVER THE INPUT: true; the input reads as it did. -/
def convoyChecksSpec : ChangeSpec := { name := "convoyChecks", fn := fun _ => fun
  | [d1, d2, d3] => { results := [.lit (.bool true)], args := [d1, d2, d3] }
  | _ => none }
def convoyChecksRow : OpenClaim := { program := "ytkdjkkimngeloaa", sum := "61e10d935a6573bee9dc74edeb9f43c025febe622cac2ba34f0decd83fa78ce8", func := "waltzer/waltzerlaw09.ConvoyChecks", spec := "convoyChecks", unfollowed := true, recurses := true, plainKeys := false, apart := false }
def ConvoyChecksSaid : Prop := convoyChecksRow.holds Try.pinned (OpenSpec.ofChange convoyChecksSpec)

/-- ITS FALSE NEIGHBOUR: 'it returns false'. Refute it at one input. -/
def convoyChecksWrong : ChangeSpec := { name := "convoyChecks", fn := fun _ => fun
  | [d1, d2, d3] => { results := [.lit (.bool false)], args := [d1, d2, d3] }
  | _ => none }
def ConvoyChecksWrongFalsely : Prop := convoyChecksRow.holds Try.pinned (OpenSpec.ofChange convoyChecksWrong)

/-- 'waltzerlaw09.ConvoyReaches': WHATEVER THE INPUT: true; the input reads as it did. -/
def convoyReachesSpec : ChangeSpec := { name := "convoyReaches", fn := fun _ => fun
  | [d1, d2] => { results := [.lit (.bool true)], args := [d1, d2] }
  | _ => none }
def convoyReachesRow : OpenClaim := { program := "ytkdjkkimngeloaa", sum := "61e10d935a6573bee9dc74edeb9f43c025febe622cac2ba34f0decd83fa78ce8", func := "waltzer/waltzerlaw09.ConvoyReaches", spec := "convoyReaches", unfollowed := true, recurses := true, plainKeys := false, apart := false }
def ConvoyReachesSaid : Prop := convoyReachesRow.holds Try.pinned (OpenSpec.ofChange convoyReachesSpec)

/-- ITS FALSE NEIGHBOUR: 'it returns false'. Refute it at one input. -/
def convoyReachesWrong : ChangeSpec := { name := "convoyReaches", fn := fun _ => fun
  | [d1, d2] => { results := [.lit (.bool false)], args := [d1, d2] }
  | _ => none }
def ConvoyReachesWrongFalsely : Prop := convoyReachesRow.holds Try.pinned (OpenSpec.ofChange convoyReachesWrong)

/-- 'waltzerlaw09.ConvoyMore': WHATEVER THE INPUT: true; the input reads as it did. -/
def convoyMoreSpec : ChangeSpec := { name := "convoyMore", fn := fun _ => fun
  | [d1, d2, d3] => { results := [.lit (.bool true)], args := [d1, d2, d3] }
  | _ => none }
def convoyMoreRow : OpenClaim := { program := "ytkdjkkimngeloaa", sum := "61e10d935a6573bee9dc74edeb9f43c025febe622cac2ba34f0decd83fa78ce8", func := "waltzer/waltzerlaw09.ConvoyMore", spec := "convoyMore", unfollowed := true, recurses := true, plainKeys := false, apart := false }
def ConvoyMoreSaid : Prop := convoyMoreRow.holds Try.pinned (OpenSpec.ofChange convoyMoreSpec)

/-- ITS FALSE NEIGHBOUR: 'it returns false'. Refute it at one input. -/
def convoyMoreWrong : ChangeSpec := { name := "convoyMore", fn := fun _ => fun
  | [d1, d2, d3] => { results := [.lit (.bool false)], args := [d1, d2, d3] }
  | _ => none }
def ConvoyMoreWrongFalsely : Prop := convoyMoreRow.holds Try.pinned (OpenSpec.ofChange convoyMoreWrong)

/-- 'waltzerlaw09.ConvoyJourneys': WHATEVER THE INPUT: true; the input reads as it did. -/
def convoyJourneysSpec : ChangeSpec := { name := "convoyJourneys", fn := fun _ => fun
  | [d1, d2, d3] => { results := [.lit (.bool true)], args := [d1, d2, d3] }
  | _ => none }
def convoyJourneysRow : OpenClaim := { program := "ytkdjkkimngeloaa", sum := "61e10d935a6573bee9dc74edeb9f43c025febe622cac2ba34f0decd83fa78ce8", func := "waltzer/waltzerlaw09.ConvoyJourneys", spec := "convoyJourneys", unfollowed := true, recurses := true, plainKeys := false, apart := false }
def ConvoyJourneysSaid : Prop := convoyJourneysRow.holds Try.pinned (OpenSpec.ofChange convoyJourneysSpec)

/-- ITS FALSE NEIGHBOUR: 'it returns false'. Refute it at one input. -/
def convoyJourneysWrong : ChangeSpec := { name := "convoyJourneys", fn := fun _ => fun
  | [d1, d2, d3] => { results := [.lit (.bool false)], args := [d1, d2, d3] }
  | _ => none }
def ConvoyJourneysWrongFalsely : Prop := convoyJourneysRow.holds Try.pinned (OpenSpec.ofChange convoyJourneysWrong)

/-- 'waltzerlaw09.ConvoyBridges': WHATEVER THE INPUT: true; the input reads as it did. -/
def convoyBridgesSpec : ChangeSpec := { name := "convoyBridges", fn := fun _ => fun
  | [d1, d2, d3] => { results := [.lit (.bool true)], args := [d1, d2, d3] }
  | _ => none }
def convoyBridgesRow : OpenClaim := { program := "ytkdjkkimngeloaa", sum := "61e10d935a6573bee9dc74edeb9f43c025febe622cac2ba34f0decd83fa78ce8", func := "waltzer/waltzerlaw09.ConvoyBridges", spec := "convoyBridges", unfollowed := true, recurses := true, plainKeys := false, apart := false }
def ConvoyBridgesSaid : Prop := convoyBridgesRow.holds Try.pinned (OpenSpec.ofChange convoyBridgesSpec)

/-- ITS FALSE NEIGHBOUR: 'it returns false'. Refute it at one input. -/
def convoyBridgesWrong : ChangeSpec := { name := "convoyBridges", fn := fun _ => fun
  | [d1, d2, d3] => { results := [.lit (.bool false)], args := [d1, d2, d3] }
  | _ => none }
def ConvoyBridgesWrongFalsely : Prop := convoyBridgesRow.holds Try.pinned (OpenSpec.ofChange convoyBridgesWrong)

/-- 'waltzerlaw09.ConvoyConvoys': WHATEVER THE INPUT: true; the input reads as it did. -/
def convoyConvoysSpec : ChangeSpec := { name := "convoyConvoys", fn := fun _ => fun
  | [d1, d2, d3] => { results := [.lit (.bool true)], args := [d1, d2, d3] }
  | _ => none }
def convoyConvoysRow : OpenClaim := { program := "ytkdjkkimngeloaa", sum := "61e10d935a6573bee9dc74edeb9f43c025febe622cac2ba34f0decd83fa78ce8", func := "waltzer/waltzerlaw09.ConvoyConvoys", spec := "convoyConvoys", unfollowed := true, recurses := true, plainKeys := false, apart := false }
def ConvoyConvoysSaid : Prop := convoyConvoysRow.holds Try.pinned (OpenSpec.ofChange convoyConvoysSpec)

/-- ITS FALSE NEIGHBOUR: 'it returns false'. Refute it at one input. -/
def convoyConvoysWrong : ChangeSpec := { name := "convoyConvoys", fn := fun _ => fun
  | [d1, d2, d3] => { results := [.lit (.bool false)], args := [d1, d2, d3] }
  | _ => none }
def ConvoyConvoysWrongFalsely : Prop := convoyConvoysRow.holds Try.pinned (OpenSpec.ofChange convoyConvoysWrong)

/-- 'waltzerlaw09.ConvoySoonest': WHATEVER THE INPUT: true; the input reads as it did. -/
def convoySoonestSpec : ChangeSpec := { name := "convoySoonest", fn := fun _ => fun
  | [d1, d2, d3] => { results := [.lit (.bool true)], args := [d1, d2, d3] }
  | _ => none }
def convoySoonestRow : OpenClaim := { program := "ytkdjkkimngeloaa", sum := "61e10d935a6573bee9dc74edeb9f43c025febe622cac2ba34f0decd83fa78ce8", func := "waltzer/waltzerlaw09.ConvoySoonest", spec := "convoySoonest", unfollowed := true, recurses := true, plainKeys := false, apart := false }
def ConvoySoonestSaid : Prop := convoySoonestRow.holds Try.pinned (OpenSpec.ofChange convoySoonestSpec)

/-- ITS FALSE NEIGHBOUR: 'it returns false'. Refute it at one input. -/
def convoySoonestWrong : ChangeSpec := { name := "convoySoonest", fn := fun _ => fun
  | [d1, d2, d3] => { results := [.lit (.bool false)], args := [d1, d2, d3] }
  | _ => none }
def ConvoySoonestWrongFalsely : Prop := convoySoonestRow.holds Try.pinned (OpenSpec.ofChange convoySoonestWrong)

/-- 'waltzerlaw09.ConvoySchedules': WHATEVER THE INPUT: true; the input reads as it did. -/
def convoySchedulesSpec : ChangeSpec := { name := "convoySchedules", fn := fun _ => fun
  | [d1, d2, d3] => { results := [.lit (.bool true)], args := [d1, d2, d3] }
  | _ => none }
def convoySchedulesRow : OpenClaim := { program := "ytkdjkkimngeloaa", sum := "61e10d935a6573bee9dc74edeb9f43c025febe622cac2ba34f0decd83fa78ce8", func := "waltzer/waltzerlaw09.ConvoySchedules", spec := "convoySchedules", unfollowed := true, recurses := true, plainKeys := false, apart := false }
def ConvoySchedulesSaid : Prop := convoySchedulesRow.holds Try.pinned (OpenSpec.ofChange convoySchedulesSpec)

/-- ITS FALSE NEIGHBOUR: 'it returns false'. Refute it at one input. -/
def convoySchedulesWrong : ChangeSpec := { name := "convoySchedules", fn := fun _ => fun
  | [d1, d2, d3] => { results := [.lit (.bool false)], args := [d1, d2, d3] }
  | _ => none }
def ConvoySchedulesWrongFalsely : Prop := convoySchedulesRow.holds Try.pinned (OpenSpec.ofChange convoySchedulesWrong)

/-- 'waltzerlaw09.ConvoyCritical': WHATEVER THE INPUT: true; the input reads as it did. -/
def convoyCriticalSpec : ChangeSpec := { name := "convoyCritical", fn := fun _ => fun
  | [d1, d2, d3] => { results := [.lit (.bool true)], args := [d1, d2, d3] }
  | _ => none }
def convoyCriticalRow : OpenClaim := { program := "ytkdjkkimngeloaa", sum := "61e10d935a6573bee9dc74edeb9f43c025febe622cac2ba34f0decd83fa78ce8", func := "waltzer/waltzerlaw09.ConvoyCritical", spec := "convoyCritical", unfollowed := true, recurses := true, plainKeys := false, apart := false }
def ConvoyCriticalSaid : Prop := convoyCriticalRow.holds Try.pinned (OpenSpec.ofChange convoyCriticalSpec)

/-- ITS FALSE NEIGHBOUR: 'it returns false'. Refute it at one input. -/
def convoyCriticalWrong : ChangeSpec := { name := "convoyCritical", fn := fun _ => fun
  | [d1, d2, d3] => { results := [.lit (.bool false)], args := [d1, d2, d3] }
  | _ => none }
def ConvoyCriticalWrongFalsely : Prop := convoyCriticalRow.holds Try.pinned (OpenSpec.ofChange convoyCriticalWrong)

/-- 'waltzerlaw09.ConvoyOrders': WHATEVER THE INPUT: true; the input reads as it did. -/
def convoyOrdersSpec : ChangeSpec := { name := "convoyOrders", fn := fun _ => fun
  | [d1, d2, d3] => { results := [.lit (.bool true)], args := [d1, d2, d3] }
  | _ => none }
def convoyOrdersRow : OpenClaim := { program := "ytkdjkkimngeloaa", sum := "61e10d935a6573bee9dc74edeb9f43c025febe622cac2ba34f0decd83fa78ce8", func := "waltzer/waltzerlaw09.ConvoyOrders", spec := "convoyOrders", unfollowed := true, recurses := true, plainKeys := false, apart := false }
def ConvoyOrdersSaid : Prop := convoyOrdersRow.holds Try.pinned (OpenSpec.ofChange convoyOrdersSpec)

/-- ITS FALSE NEIGHBOUR: 'it returns false'. Refute it at one input. -/
def convoyOrdersWrong : ChangeSpec := { name := "convoyOrders", fn := fun _ => fun
  | [d1, d2, d3] => { results := [.lit (.bool false)], args := [d1, d2, d3] }
  | _ => none }
def ConvoyOrdersWrongFalsely : Prop := convoyOrdersRow.holds Try.pinned (OpenSpec.ofChange convoyOrdersWrong)

/-- 'waltzerlaw09.ConvoyApart': WHATEVER THE INPUT: true; the input reads as it did. -/
def convoyApartSpec : ChangeSpec := { name := "convoyApart", fn := fun _ => fun
  | [d1, d2, d3] => { results := [.lit (.bool true)], args := [d1, d2, d3] }
  | _ => none }
def convoyApartRow : OpenClaim := { program := "ytkdjkkimngeloaa", sum := "61e10d935a6573bee9dc74edeb9f43c025febe622cac2ba34f0decd83fa78ce8", func := "waltzer/waltzerlaw09.ConvoyApart", spec := "convoyApart", unfollowed := true, recurses := true, plainKeys := false, apart := false }
def ConvoyApartSaid : Prop := convoyApartRow.holds Try.pinned (OpenSpec.ofChange convoyApartSpec)

/-- ITS FALSE NEIGHBOUR: 'it returns false'. Refute it at one input. -/
def convoyApartWrong : ChangeSpec := { name := "convoyApart", fn := fun _ => fun
  | [d1, d2, d3] => { results := [.lit (.bool false)], args := [d1, d2, d3] }
  | _ => none }
def ConvoyApartWrongFalsely : Prop := convoyApartRow.holds Try.pinned (OpenSpec.ofChange convoyApartWrong)

/- THE SECOND FORM. 'bulk': how many values and letters a reading holds, each counted each time it is reached (what is shared counts as often as it is met; a slice's spare places count too). A statement '..UptoSaid' is the law's where the arguments, and the package variables that the reading takes, are together of bulk at most 1048576: NARROWER than '..Said'. Prove '..Said' where nothing that the law and all that it calls make is longer than what came in: it says more and counts as full. Else prove '..UptoSaid'. A law counts once. -/
mutual
def uptoBulk {H : Type} : DataW H → Nat
  | .lit (.string bytes) => bytes.length + 1
  | .lit _ => 1
  | .nil => 1
  | .ptr d => uptoBulk d + 1
  | .slice elems spare => uptoBulkAll elems + uptoBulkAll spare + 1
  | .agg parts => uptoBulkAll parts + 1
  | .iface _ d => uptoBulk d + 1
  | .map entries => uptoBulkEntries entries + 1
  | .held _ => 1
def uptoBulkAll {H : Type} : List (DataW H) → Nat
  | [] => 0
  | d :: r => uptoBulk d + uptoBulkAll r
def uptoBulkEntries {H : Type} : List (Lit × DataW H) → Nat
  | [] => 0
  | x :: r => uptoBulkEntry x + uptoBulkEntries r
def uptoBulkEntry {H : Type} : Lit × DataW H → Nat
  | (.string bytes, d) => bytes.length + uptoBulk d + 1
  | (_, d) => uptoBulk d + 1
 end
def uptoSmall : (H : Type) → List (DataW H) → Bool := fun _ ds => decide (uptoBulkAll ds ≤ 1048576)
def OpenSpec.upto (s : _root_.Go.ChangeSpec) : _root_.Go.OpenSpec := { _root_.Go.OpenSpec.ofChange s with cond := some uptoSmall }

/-- 'waltzerlaw09.ConvoyDrives', WHERE WHAT IT READS IS OF BULK AT MOST 1048576: true; the input reads as it did. -/
def convoyDrivesUptoRow : OpenClaim := { program := "ytkdjkkimngeloaa", sum := "61e10d935a6573bee9dc74edeb9f43c025febe622cac2ba34f0decd83fa78ce8", func := "waltzer/waltzerlaw09.ConvoyDrives", spec := "convoyDrives", unfollowed := true, recurses := true, plainKeys := false, apart := false, narrowed := true }
def ConvoyDrivesUptoSaid : Prop := convoyDrivesUptoRow.holds Try.pinned (OpenSpec.upto convoyDrivesSpec)

/-- 'waltzerlaw09.ConvoyHighest', WHERE WHAT IT READS IS OF BULK AT MOST 1048576: true; the input reads as it did. -/
def convoyHighestUptoRow : OpenClaim := { program := "ytkdjkkimngeloaa", sum := "61e10d935a6573bee9dc74edeb9f43c025febe622cac2ba34f0decd83fa78ce8", func := "waltzer/waltzerlaw09.ConvoyHighest", spec := "convoyHighest", unfollowed := true, recurses := true, plainKeys := false, apart := false, narrowed := true }
def ConvoyHighestUptoSaid : Prop := convoyHighestUptoRow.holds Try.pinned (OpenSpec.upto convoyHighestSpec)

/-- 'waltzerlaw09.ConvoyChecks', WHERE WHAT IT READS IS OF BULK AT MOST 1048576: true; the input reads as it did. -/
def convoyChecksUptoRow : OpenClaim := { program := "ytkdjkkimngeloaa", sum := "61e10d935a6573bee9dc74edeb9f43c025febe622cac2ba34f0decd83fa78ce8", func := "waltzer/waltzerlaw09.ConvoyChecks", spec := "convoyChecks", unfollowed := true, recurses := true, plainKeys := false, apart := false, narrowed := true }
def ConvoyChecksUptoSaid : Prop := convoyChecksUptoRow.holds Try.pinned (OpenSpec.upto convoyChecksSpec)

/-- 'waltzerlaw09.ConvoyReaches', WHERE WHAT IT READS IS OF BULK AT MOST 1048576: true; the input reads as it did. -/
def convoyReachesUptoRow : OpenClaim := { program := "ytkdjkkimngeloaa", sum := "61e10d935a6573bee9dc74edeb9f43c025febe622cac2ba34f0decd83fa78ce8", func := "waltzer/waltzerlaw09.ConvoyReaches", spec := "convoyReaches", unfollowed := true, recurses := true, plainKeys := false, apart := false, narrowed := true }
def ConvoyReachesUptoSaid : Prop := convoyReachesUptoRow.holds Try.pinned (OpenSpec.upto convoyReachesSpec)

/-- 'waltzerlaw09.ConvoyMore', WHERE WHAT IT READS IS OF BULK AT MOST 1048576: true; the input reads as it did. -/
def convoyMoreUptoRow : OpenClaim := { program := "ytkdjkkimngeloaa", sum := "61e10d935a6573bee9dc74edeb9f43c025febe622cac2ba34f0decd83fa78ce8", func := "waltzer/waltzerlaw09.ConvoyMore", spec := "convoyMore", unfollowed := true, recurses := true, plainKeys := false, apart := false, narrowed := true }
def ConvoyMoreUptoSaid : Prop := convoyMoreUptoRow.holds Try.pinned (OpenSpec.upto convoyMoreSpec)

/-- 'waltzerlaw09.ConvoyJourneys', WHERE WHAT IT READS IS OF BULK AT MOST 1048576: true; the input reads as it did. -/
def convoyJourneysUptoRow : OpenClaim := { program := "ytkdjkkimngeloaa", sum := "61e10d935a6573bee9dc74edeb9f43c025febe622cac2ba34f0decd83fa78ce8", func := "waltzer/waltzerlaw09.ConvoyJourneys", spec := "convoyJourneys", unfollowed := true, recurses := true, plainKeys := false, apart := false, narrowed := true }
def ConvoyJourneysUptoSaid : Prop := convoyJourneysUptoRow.holds Try.pinned (OpenSpec.upto convoyJourneysSpec)

/-- 'waltzerlaw09.ConvoyBridges', WHERE WHAT IT READS IS OF BULK AT MOST 1048576: true; the input reads as it did. -/
def convoyBridgesUptoRow : OpenClaim := { program := "ytkdjkkimngeloaa", sum := "61e10d935a6573bee9dc74edeb9f43c025febe622cac2ba34f0decd83fa78ce8", func := "waltzer/waltzerlaw09.ConvoyBridges", spec := "convoyBridges", unfollowed := true, recurses := true, plainKeys := false, apart := false, narrowed := true }
def ConvoyBridgesUptoSaid : Prop := convoyBridgesUptoRow.holds Try.pinned (OpenSpec.upto convoyBridgesSpec)

/-- 'waltzerlaw09.ConvoyConvoys', WHERE WHAT IT READS IS OF BULK AT MOST 1048576: true; the input reads as it did. -/
def convoyConvoysUptoRow : OpenClaim := { program := "ytkdjkkimngeloaa", sum := "61e10d935a6573bee9dc74edeb9f43c025febe622cac2ba34f0decd83fa78ce8", func := "waltzer/waltzerlaw09.ConvoyConvoys", spec := "convoyConvoys", unfollowed := true, recurses := true, plainKeys := false, apart := false, narrowed := true }
def ConvoyConvoysUptoSaid : Prop := convoyConvoysUptoRow.holds Try.pinned (OpenSpec.upto convoyConvoysSpec)

/-- 'waltzerlaw09.ConvoySoonest', WHERE WHAT IT READS IS OF BULK AT MOST 1048576: true; the input reads as it did. -/
def convoySoonestUptoRow : OpenClaim := { program := "ytkdjkkimngeloaa", sum := "61e10d935a6573bee9dc74edeb9f43c025febe622cac2ba34f0decd83fa78ce8", func := "waltzer/waltzerlaw09.ConvoySoonest", spec := "convoySoonest", unfollowed := true, recurses := true, plainKeys := false, apart := false, narrowed := true }
def ConvoySoonestUptoSaid : Prop := convoySoonestUptoRow.holds Try.pinned (OpenSpec.upto convoySoonestSpec)

/-- 'waltzerlaw09.ConvoySchedules', WHERE WHAT IT READS IS OF BULK AT MOST 1048576: true; the input reads as it did. -/
def convoySchedulesUptoRow : OpenClaim := { program := "ytkdjkkimngeloaa", sum := "61e10d935a6573bee9dc74edeb9f43c025febe622cac2ba34f0decd83fa78ce8", func := "waltzer/waltzerlaw09.ConvoySchedules", spec := "convoySchedules", unfollowed := true, recurses := true, plainKeys := false, apart := false, narrowed := true }
def ConvoySchedulesUptoSaid : Prop := convoySchedulesUptoRow.holds Try.pinned (OpenSpec.upto convoySchedulesSpec)

/-- 'waltzerlaw09.ConvoyCritical', WHERE WHAT IT READS IS OF BULK AT MOST 1048576: true; the input reads as it did. -/
def convoyCriticalUptoRow : OpenClaim := { program := "ytkdjkkimngeloaa", sum := "61e10d935a6573bee9dc74edeb9f43c025febe622cac2ba34f0decd83fa78ce8", func := "waltzer/waltzerlaw09.ConvoyCritical", spec := "convoyCritical", unfollowed := true, recurses := true, plainKeys := false, apart := false, narrowed := true }
def ConvoyCriticalUptoSaid : Prop := convoyCriticalUptoRow.holds Try.pinned (OpenSpec.upto convoyCriticalSpec)

/-- 'waltzerlaw09.ConvoyOrders', WHERE WHAT IT READS IS OF BULK AT MOST 1048576: true; the input reads as it did. -/
def convoyOrdersUptoRow : OpenClaim := { program := "ytkdjkkimngeloaa", sum := "61e10d935a6573bee9dc74edeb9f43c025febe622cac2ba34f0decd83fa78ce8", func := "waltzer/waltzerlaw09.ConvoyOrders", spec := "convoyOrders", unfollowed := true, recurses := true, plainKeys := false, apart := false, narrowed := true }
def ConvoyOrdersUptoSaid : Prop := convoyOrdersUptoRow.holds Try.pinned (OpenSpec.upto convoyOrdersSpec)

/-- 'waltzerlaw09.ConvoyApart', WHERE WHAT IT READS IS OF BULK AT MOST 1048576: true; the input reads as it did. -/
def convoyApartUptoRow : OpenClaim := { program := "ytkdjkkimngeloaa", sum := "61e10d935a6573bee9dc74edeb9f43c025febe622cac2ba34f0decd83fa78ce8", func := "waltzer/waltzerlaw09.ConvoyApart", spec := "convoyApart", unfollowed := true, recurses := true, plainKeys := false, apart := false, narrowed := true }
def ConvoyApartUptoSaid : Prop := convoyApartUptoRow.holds Try.pinned (OpenSpec.upto convoyApartSpec)

end Rows
end Go.Proofs.Ytkdjkkimngeloaa
