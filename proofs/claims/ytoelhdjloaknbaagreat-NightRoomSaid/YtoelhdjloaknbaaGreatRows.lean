/-
  No cell of these rows narrows 'for every input' (looked for: loops, veiled, ifaces, maps, wideKeys, modest, calm, conditions, laid).
  DERIVED. THE GIVEN ROWS OF THIS SEAT. 7 by the template 'for every input the law returns true; each argument reads behind the call as it read before'; 0 by the template 'total and deterministic' (their statements: YtoelhdjloaknbaaGreatTotals.lean).
  GIVEN WITH THE SEED: the statements are not yours to turn. If you find one false, say at which input.
  Laid BY PROGRAM, IN A SANDBOX (cutbox-rows.mjs): the forced cells as the released guide's own fill.sh prints them over the translation 3176ca26674db2ce… (all of the seat's roots in one cut). By AI agents, Wed Nov 11 2026. No macro, syntax, notation, axiom, sorry.
-/
import Derived.Test.YtoelhdjloaknbaaGreatChecked
import GoSem.Claim
import GoSem.ClaimJoined
import GoSem.ClaimMapViews
import Derived.JoinedTies
import Derived.KernelRfl
namespace Go.Proofs.YtoelhdjloaknbaaGreat
/- THE CELL 'sum', in the pinned program and in every row, IS THE sha256 OF THE DUMP (.gsa) THAT YtoelhdjloaknbaaGreatProg.lean LOADS. Nothing in Lean hashes anything: it is a label: what it is worth is what the hold of that sum in a sandbox is worth. -/
noncomputable def Tryz.pinned : Pinned := { name := "ytoelhdjloaknbaagreat", sum := "3176ca26674db2cec901a07a1fef8e85f75343b51f6d8f1729bbeef7cc176091", checked := Tryz.checked }
namespace Rows
def none {H : Type} : Left H := { results := [], args := [] }

/-- 'waltzerlaw12.NightRuns': WHATEVER THE INPUT: true; the input reads as it did. -/
def nightRunsSpec : ChangeSpec := { name := "nightRuns", fn := fun _ => fun
  | [d1, d2] => { results := [.lit (.bool true)], args := [d1, d2] }
  | _ => none }
def nightRunsRow : OpenClaim := { program := "ytoelhdjloaknbaagreat", sum := "3176ca26674db2cec901a07a1fef8e85f75343b51f6d8f1729bbeef7cc176091", func := "waltzer/waltzerlaw12.NightRuns", spec := "nightRuns", unfollowed := true, recurses := true, apart := false }
def NightRunsSaid : Prop := nightRunsRow.holds Tryz.pinned (OpenSpec.ofChange nightRunsSpec)

/-- ITS FALSE NEIGHBOUR: 'it returns false'. Refute it at one input. -/
def nightRunsWrong : ChangeSpec := { name := "nightRuns", fn := fun _ => fun
  | [d1, d2] => { results := [.lit (.bool false)], args := [d1, d2] }
  | _ => none }
def NightRunsWrongFalsely : Prop := nightRunsRow.holds Tryz.pinned (OpenSpec.ofChange nightRunsWrong)

/-- 'waltzerlaw12.NightMatches': WHATEVER THE INPUT: true; the input reads as it did. -/
def nightMatchesSpec : ChangeSpec := { name := "nightMatches", fn := fun _ => fun
  | [d] => { results := [.lit (.bool true)], args := [d] }
  | _ => none }
def nightMatchesRow : OpenClaim := { program := "ytoelhdjloaknbaagreat", sum := "3176ca26674db2cec901a07a1fef8e85f75343b51f6d8f1729bbeef7cc176091", func := "waltzer/waltzerlaw12.NightMatches", spec := "nightMatches", unfollowed := true, recurses := true, apart := false }
def NightMatchesSaid : Prop := nightMatchesRow.holds Tryz.pinned (OpenSpec.ofChange nightMatchesSpec)

/-- ITS FALSE NEIGHBOUR: 'it returns false'. Refute it at one input. -/
def nightMatchesWrong : ChangeSpec := { name := "nightMatches", fn := fun _ => fun
  | [d] => { results := [.lit (.bool false)], args := [d] }
  | _ => none }
def NightMatchesWrongFalsely : Prop := nightMatchesRow.holds Tryz.pinned (OpenSpec.ofChange nightMatchesWrong)

/-- 'waltzerlaw12.NightChildren': WHATEVER THE INPUT: true; the input reads as it did. -/
def nightChildrenSpec : ChangeSpec := { name := "nightChildren", fn := fun _ => fun
  | [d] => { results := [.lit (.bool true)], args := [d] }
  | _ => none }
def nightChildrenRow : OpenClaim := { program := "ytoelhdjloaknbaagreat", sum := "3176ca26674db2cec901a07a1fef8e85f75343b51f6d8f1729bbeef7cc176091", func := "waltzer/waltzerlaw12.NightChildren", spec := "nightChildren", unfollowed := true, recurses := true, apart := false }
def NightChildrenSaid : Prop := nightChildrenRow.holds Tryz.pinned (OpenSpec.ofChange nightChildrenSpec)

/-- ITS FALSE NEIGHBOUR: 'it returns false'. Refute it at one input. -/
def nightChildrenWrong : ChangeSpec := { name := "nightChildren", fn := fun _ => fun
  | [d] => { results := [.lit (.bool false)], args := [d] }
  | _ => none }
def NightChildrenWrongFalsely : Prop := nightChildrenRow.holds Tryz.pinned (OpenSpec.ofChange nightChildrenWrong)

/-- 'waltzerlaw12.NightAdmits': WHATEVER THE INPUT: true; the input reads as it did. -/
def nightAdmitsSpec : ChangeSpec := { name := "nightAdmits", fn := fun _ => fun
  | [d1, d2, d3] => { results := [.lit (.bool true)], args := [d1, d2, d3] }
  | _ => none }
def nightAdmitsRow : OpenClaim := { program := "ytoelhdjloaknbaagreat", sum := "3176ca26674db2cec901a07a1fef8e85f75343b51f6d8f1729bbeef7cc176091", func := "waltzer/waltzerlaw12.NightAdmits", spec := "nightAdmits", unfollowed := true, recurses := true, apart := false }
def NightAdmitsSaid : Prop := nightAdmitsRow.holds Tryz.pinned (OpenSpec.ofChange nightAdmitsSpec)

/-- ITS FALSE NEIGHBOUR: 'it returns false'. Refute it at one input. -/
def nightAdmitsWrong : ChangeSpec := { name := "nightAdmits", fn := fun _ => fun
  | [d1, d2, d3] => { results := [.lit (.bool false)], args := [d1, d2, d3] }
  | _ => none }
def NightAdmitsWrongFalsely : Prop := nightAdmitsRow.holds Tryz.pinned (OpenSpec.ofChange nightAdmitsWrong)

/-- 'waltzerlaw12.NightRoom': WHATEVER THE INPUT: true; the input reads as it did. -/
def nightRoomSpec : ChangeSpec := { name := "nightRoom", fn := fun _ => fun
  | [d1, d2, d3] => { results := [.lit (.bool true)], args := [d1, d2, d3] }
  | _ => none }
def nightRoomRow : OpenClaim := { program := "ytoelhdjloaknbaagreat", sum := "3176ca26674db2cec901a07a1fef8e85f75343b51f6d8f1729bbeef7cc176091", func := "waltzer/waltzerlaw12.NightRoom", spec := "nightRoom", unfollowed := true, recurses := true, apart := false }
def NightRoomSaid : Prop := nightRoomRow.holds Tryz.pinned (OpenSpec.ofChange nightRoomSpec)

/-- ITS FALSE NEIGHBOUR: 'it returns false'. Refute it at one input. -/
def nightRoomWrong : ChangeSpec := { name := "nightRoom", fn := fun _ => fun
  | [d1, d2, d3] => { results := [.lit (.bool false)], args := [d1, d2, d3] }
  | _ => none }
def NightRoomWrongFalsely : Prop := nightRoomRow.holds Tryz.pinned (OpenSpec.ofChange nightRoomWrong)

/-- 'waltzerlaw12.NightShares': WHATEVER THE INPUT: true; the input reads as it did. -/
def nightSharesSpec : ChangeSpec := { name := "nightShares", fn := fun _ => fun
  | [d1, d2, d3] => { results := [.lit (.bool true)], args := [d1, d2, d3] }
  | _ => none }
def nightSharesRow : OpenClaim := { program := "ytoelhdjloaknbaagreat", sum := "3176ca26674db2cec901a07a1fef8e85f75343b51f6d8f1729bbeef7cc176091", func := "waltzer/waltzerlaw12.NightShares", spec := "nightShares", unfollowed := true, recurses := true, apart := false }
def NightSharesSaid : Prop := nightSharesRow.holds Tryz.pinned (OpenSpec.ofChange nightSharesSpec)

/-- ITS FALSE NEIGHBOUR: 'it returns false'. Refute it at one input. -/
def nightSharesWrong : ChangeSpec := { name := "nightShares", fn := fun _ => fun
  | [d1, d2, d3] => { results := [.lit (.bool false)], args := [d1, d2, d3] }
  | _ => none }
def NightSharesWrongFalsely : Prop := nightSharesRow.holds Tryz.pinned (OpenSpec.ofChange nightSharesWrong)

/-- 'waltzerlaw12.NightClears': WHATEVER THE INPUT: true; the input reads as it did. -/
def nightClearsSpec : ChangeSpec := { name := "nightClears", fn := fun _ => fun
  | [d1, d2] => { results := [.lit (.bool true)], args := [d1, d2] }
  | _ => none }
def nightClearsRow : OpenClaim := { program := "ytoelhdjloaknbaagreat", sum := "3176ca26674db2cec901a07a1fef8e85f75343b51f6d8f1729bbeef7cc176091", func := "waltzer/waltzerlaw12.NightClears", spec := "nightClears", unfollowed := true, recurses := true, apart := false }
def NightClearsSaid : Prop := nightClearsRow.holds Tryz.pinned (OpenSpec.ofChange nightClearsSpec)

/-- ITS FALSE NEIGHBOUR: 'it returns false'. Refute it at one input. -/
def nightClearsWrong : ChangeSpec := { name := "nightClears", fn := fun _ => fun
  | [d1, d2] => { results := [.lit (.bool false)], args := [d1, d2] }
  | _ => none }
def NightClearsWrongFalsely : Prop := nightClearsRow.holds Tryz.pinned (OpenSpec.ofChange nightClearsWrong)

/- THE SECOND FORM. 'bulk': how many values and letters a reading holds, each counted each time it is reached (what is shared counts as often as it is met; a slice's spare places count too). A statement '..UptoSaid' is the law's where the arguments, and the package variables that the reading takes, are together of bulk at most 1048576: NARROWER than '..Said'. Prove '..Said' where nothing that the law and all that it calls make is longer than what came in: it says more and counts as full. Else prove '..UptoSaid'. A law counts once. -/
mutual
def uptoBulk {H : Type} : DataW H → Nat
  | .lit (.string bytes) => bytes.length + 1
  | .lit _ => 1
  | .nil => 1
  | .ptr d => uptoBulk d + 1
  | .slice elems spare => uptoBulkAll elems + uptoBulkAll spare + 1
  | .agg parts => uptoBulkAll parts + 1
  | .iface _ d => uptoBulk d + 1
  | .map entries => uptoBulkEntries entries + 1
  | .held _ => 1
def uptoBulkAll {H : Type} : List (DataW H) → Nat
  | [] => 0
  | d :: r => uptoBulk d + uptoBulkAll r
def uptoBulkEntries {H : Type} : List (Lit × DataW H) → Nat
  | [] => 0
  | x :: r => uptoBulkEntry x + uptoBulkEntries r
def uptoBulkEntry {H : Type} : Lit × DataW H → Nat
  | (.string bytes, d) => bytes.length + uptoBulk d + 1
  | (_, d) => uptoBulk d + 1
 end
def uptoSmall : (H : Type) → List (DataW H) → Bool := fun _ ds => decide (uptoBulkAll ds ≤ 1048576)
def OpenSpec.upto (s : _root_.Go.ChangeSpec) : _root_.Go.OpenSpec := { _root_.Go.OpenSpec.ofChange s with cond := some uptoSmall }

/-- 'waltzerlaw12.NightRuns', WHERE WHAT IT READS IS OF BULK AT MOST 1048576: true; the input reads as it did. -/
def nightRunsUptoRow : OpenClaim := { program := "ytoelhdjloaknbaagreat", sum := "3176ca26674db2cec901a07a1fef8e85f75343b51f6d8f1729bbeef7cc176091", func := "waltzer/waltzerlaw12.NightRuns", spec := "nightRuns", unfollowed := true, recurses := true, apart := false, narrowed := true }
def NightRunsUptoSaid : Prop := nightRunsUptoRow.holds Tryz.pinned (OpenSpec.upto nightRunsSpec)

/-- 'waltzerlaw12.NightMatches', WHERE WHAT IT READS IS OF BULK AT MOST 1048576: true; the input reads as it did. -/
def nightMatchesUptoRow : OpenClaim := { program := "ytoelhdjloaknbaagreat", sum := "3176ca26674db2cec901a07a1fef8e85f75343b51f6d8f1729bbeef7cc176091", func := "waltzer/waltzerlaw12.NightMatches", spec := "nightMatches", unfollowed := true, recurses := true, apart := false, narrowed := true }
def NightMatchesUptoSaid : Prop := nightMatchesUptoRow.holds Tryz.pinned (OpenSpec.upto nightMatchesSpec)

/-- 'waltzerlaw12.NightChildren', WHERE WHAT IT READS IS OF BULK AT MOST 1048576: true; the input reads as it did. -/
def nightChildrenUptoRow : OpenClaim := { program := "ytoelhdjloaknbaagreat", sum := "3176ca26674db2cec901a07a1fef8e85f75343b51f6d8f1729bbeef7cc176091", func := "waltzer/waltzerlaw12.NightChildren", spec := "nightChildren", unfollowed := true, recurses := true, apart := false, narrowed := true }
def NightChildrenUptoSaid : Prop := nightChildrenUptoRow.holds Tryz.pinned (OpenSpec.upto nightChildrenSpec)

/-- 'waltzerlaw12.NightAdmits', WHERE WHAT IT READS IS OF BULK AT MOST 1048576: true; the input reads as it did. -/
def nightAdmitsUptoRow : OpenClaim := { program := "ytoelhdjloaknbaagreat", sum := "3176ca26674db2cec901a07a1fef8e85f75343b51f6d8f1729bbeef7cc176091", func := "waltzer/waltzerlaw12.NightAdmits", spec := "nightAdmits", unfollowed := true, recurses := true, apart := false, narrowed := true }
def NightAdmitsUptoSaid : Prop := nightAdmitsUptoRow.holds Tryz.pinned (OpenSpec.upto nightAdmitsSpec)

/-- 'waltzerlaw12.NightRoom', WHERE WHAT IT READS IS OF BULK AT MOST 1048576: true; the input reads as it did. -/
def nightRoomUptoRow : OpenClaim := { program := "ytoelhdjloaknbaagreat", sum := "3176ca26674db2cec901a07a1fef8e85f75343b51f6d8f1729bbeef7cc176091", func := "waltzer/waltzerlaw12.NightRoom", spec := "nightRoom", unfollowed := true, recurses := true, apart := false, narrowed := true }
def NightRoomUptoSaid : Prop := nightRoomUptoRow.holds Tryz.pinned (OpenSpec.upto nightRoomSpec)

/-- 'waltzerlaw12.NightShares', WHERE WHAT IT READS IS OF BULK AT MOST 1048576: true; the input reads as it did. -/
def nightSharesUptoRow : OpenClaim := { program := "ytoelhdjloaknbaagreat", sum := "3176ca26674db2cec901a07a1fef8e85f75343b51f6d8f1729bbeef7cc176091", func := "waltzer/waltzerlaw12.NightShares", spec := "nightShares", unfollowed := true, recurses := true, apart := false, narrowed := true }
def NightSharesUptoSaid : Prop := nightSharesUptoRow.holds Tryz.pinned (OpenSpec.upto nightSharesSpec)

/-- 'waltzerlaw12.NightClears', WHERE WHAT IT READS IS OF BULK AT MOST 1048576: true; the input reads as it did. -/
def nightClearsUptoRow : OpenClaim := { program := "ytoelhdjloaknbaagreat", sum := "3176ca26674db2cec901a07a1fef8e85f75343b51f6d8f1729bbeef7cc176091", func := "waltzer/waltzerlaw12.NightClears", spec := "nightClears", unfollowed := true, recurses := true, apart := false, narrowed := true }
def NightClearsUptoSaid : Prop := nightClearsUptoRow.holds Tryz.pinned (OpenSpec.upto nightClearsSpec)

end Rows
end Go.Proofs.YtoelhdjloaknbaaGreat
