/-
  No cell of these rows narrows 'for every input' (looked for: loops, veiled, ifaces, maps, wideKeys, modest, calm, conditions, laid).
  DERIVED. THE GIVEN ROWS OF THIS SEAT. 3 by the template 'for every input the law returns true; each argument reads behind the call as it read before'; 0 by the template 'total and deterministic' (their statements: YtecodlefcmjihaaGreatTotals.lean).
  GIVEN WITH THE SEED: the statements are not yours to turn. If you find one false, say at which input.
  Laid BY PROGRAM, IN A SANDBOX (cutbox-rows.mjs): the forced cells as the released guide's own fill.sh prints them over the translation 56a34ddbeba90161… (all of the seat's roots in one cut). By AI agents, Wed Nov 11 2026. No macro, syntax, notation, axiom, sorry.
-/
import Derived.Test.YtecodlefcmjihaaGreatChecked
import GoSem.Claim
import GoSem.ClaimJoined
import GoSem.ClaimMapViews
import Derived.JoinedTies
import Derived.KernelRfl
namespace Go.Proofs.YtecodlefcmjihaaGreat
/- THE CELL 'sum', in the pinned program and in every row, IS THE sha256 OF THE DUMP (.gsa) THAT YtecodlefcmjihaaGreatProg.lean LOADS. Nothing in Lean hashes anything: it is a label: what it is worth is what the hold of that sum in a sandbox is worth. -/
noncomputable def Tryz.pinned : Pinned := { name := "ytecodlefcmjihaagreat", sum := "56a34ddbeba90161778df9370d7225ceb2cb3bcbe16c3e3403e8dc5ca95e2c08", checked := Tryz.checked }
namespace Rows
def none {H : Type} : Left H := { results := [], args := [] }

/-- 'waltzertop.TopTokens': WHATEVER THE INPUT: true; the input reads as it did. -/
def topTokensSpec : ChangeSpec := { name := "topTokens", fn := fun _ => fun
  | [d1, d2] => { results := [.lit (.bool true)], args := [d1, d2] }
  | _ => none }
def topTokensRow : OpenClaim := { program := "ytecodlefcmjihaagreat", sum := "56a34ddbeba90161778df9370d7225ceb2cb3bcbe16c3e3403e8dc5ca95e2c08", func := "waltzer/waltzertop.TopTokens", spec := "topTokens", unfollowed := true, recurses := true, apart := false }
def TopTokensSaid : Prop := topTokensRow.holds Tryz.pinned (OpenSpec.ofChange topTokensSpec)

/-- ITS FALSE NEIGHBOUR: 'it returns false'. Refute it at one input. -/
def topTokensWrong : ChangeSpec := { name := "topTokens", fn := fun _ => fun
  | [d1, d2] => { results := [.lit (.bool false)], args := [d1, d2] }
  | _ => none }
def TopTokensWrongFalsely : Prop := topTokensRow.holds Tryz.pinned (OpenSpec.ofChange topTokensWrong)

/-- 'waltzertop.TopSpend': WHATEVER THE INPUT: true; the input reads as it did. -/
def topSpendSpec : ChangeSpec := { name := "topSpend", fn := fun _ => fun
  | [d1, d2, d3] => { results := [.lit (.bool true)], args := [d1, d2, d3] }
  | _ => none }
def topSpendRow : OpenClaim := { program := "ytecodlefcmjihaagreat", sum := "56a34ddbeba90161778df9370d7225ceb2cb3bcbe16c3e3403e8dc5ca95e2c08", func := "waltzer/waltzertop.TopSpend", spec := "topSpend", unfollowed := true, recurses := true, apart := false }
def TopSpendSaid : Prop := topSpendRow.holds Tryz.pinned (OpenSpec.ofChange topSpendSpec)

/-- ITS FALSE NEIGHBOUR: 'it returns false'. Refute it at one input. -/
def topSpendWrong : ChangeSpec := { name := "topSpend", fn := fun _ => fun
  | [d1, d2, d3] => { results := [.lit (.bool false)], args := [d1, d2, d3] }
  | _ => none }
def TopSpendWrongFalsely : Prop := topSpendRow.holds Tryz.pinned (OpenSpec.ofChange topSpendWrong)

/-- 'waltzertop.TopRounds': WHATEVER THE INPUT: true; the input reads as it did. -/
def topRoundsSpec : ChangeSpec := { name := "topRounds", fn := fun _ => fun
  | [d1, d2, d3] => { results := [.lit (.bool true)], args := [d1, d2, d3] }
  | _ => none }
def topRoundsRow : OpenClaim := { program := "ytecodlefcmjihaagreat", sum := "56a34ddbeba90161778df9370d7225ceb2cb3bcbe16c3e3403e8dc5ca95e2c08", func := "waltzer/waltzertop.TopRounds", spec := "topRounds", unfollowed := true, recurses := true, apart := false }
def TopRoundsSaid : Prop := topRoundsRow.holds Tryz.pinned (OpenSpec.ofChange topRoundsSpec)

/-- ITS FALSE NEIGHBOUR: 'it returns false'. Refute it at one input. -/
def topRoundsWrong : ChangeSpec := { name := "topRounds", fn := fun _ => fun
  | [d1, d2, d3] => { results := [.lit (.bool false)], args := [d1, d2, d3] }
  | _ => none }
def TopRoundsWrongFalsely : Prop := topRoundsRow.holds Tryz.pinned (OpenSpec.ofChange topRoundsWrong)

/- THE SECOND FORM. 'bulk': how many values and letters a reading holds, each counted each time it is reached (what is shared counts as often as it is met; a slice's spare places count too). A statement '..UptoSaid' is the law's where the arguments, and the package variables that the reading takes, are together of bulk at most 1048576: NARROWER than '..Said'. Prove '..Said' where nothing that the law and all that it calls make is longer than what came in: it says more and counts as full. Else prove '..UptoSaid'. A law counts once. -/
mutual
def uptoBulk {H : Type} : DataW H → Nat
  | .lit (.string bytes) => bytes.length + 1
  | .lit _ => 1
  | .nil => 1
  | .ptr d => uptoBulk d + 1
  | .slice elems spare => uptoBulkAll elems + uptoBulkAll spare + 1
  | .agg parts => uptoBulkAll parts + 1
  | .iface _ d => uptoBulk d + 1
  | .map entries => uptoBulkEntries entries + 1
  | .held _ => 1
def uptoBulkAll {H : Type} : List (DataW H) → Nat
  | [] => 0
  | d :: r => uptoBulk d + uptoBulkAll r
def uptoBulkEntries {H : Type} : List (Lit × DataW H) → Nat
  | [] => 0
  | x :: r => uptoBulkEntry x + uptoBulkEntries r
def uptoBulkEntry {H : Type} : Lit × DataW H → Nat
  | (.string bytes, d) => bytes.length + uptoBulk d + 1
  | (_, d) => uptoBulk d + 1
 end
def uptoSmall : (H : Type) → List (DataW H) → Bool := fun _ ds => decide (uptoBulkAll ds ≤ 1048576)
def OpenSpec.upto (s : _root_.Go.ChangeSpec) : _root_.Go.OpenSpec := { _root_.Go.OpenSpec.ofChange s with cond := some uptoSmall }

/-- 'waltzertop.TopTokens', WHERE WHAT IT READS IS OF BULK AT MOST 1048576: true; the input reads as it did. -/
def topTokensUptoRow : OpenClaim := { program := "ytecodlefcmjihaagreat", sum := "56a34ddbeba90161778df9370d7225ceb2cb3bcbe16c3e3403e8dc5ca95e2c08", func := "waltzer/waltzertop.TopTokens", spec := "topTokens", unfollowed := true, recurses := true, apart := false, narrowed := true }
def TopTokensUptoSaid : Prop := topTokensUptoRow.holds Tryz.pinned (OpenSpec.upto topTokensSpec)

/-- 'waltzertop.TopSpend', WHERE WHAT IT READS IS OF BULK AT MOST 1048576: true; the input reads as it did. -/
def topSpendUptoRow : OpenClaim := { program := "ytecodlefcmjihaagreat", sum := "56a34ddbeba90161778df9370d7225ceb2cb3bcbe16c3e3403e8dc5ca95e2c08", func := "waltzer/waltzertop.TopSpend", spec := "topSpend", unfollowed := true, recurses := true, apart := false, narrowed := true }
def TopSpendUptoSaid : Prop := topSpendUptoRow.holds Tryz.pinned (OpenSpec.upto topSpendSpec)

/-- 'waltzertop.TopRounds', WHERE WHAT IT READS IS OF BULK AT MOST 1048576: true; the input reads as it did. -/
def topRoundsUptoRow : OpenClaim := { program := "ytecodlefcmjihaagreat", sum := "56a34ddbeba90161778df9370d7225ceb2cb3bcbe16c3e3403e8dc5ca95e2c08", func := "waltzer/waltzertop.TopRounds", spec := "topRounds", unfollowed := true, recurses := true, apart := false, narrowed := true }
def TopRoundsUptoSaid : Prop := topRoundsUptoRow.holds Tryz.pinned (OpenSpec.upto topRoundsSpec)

end Rows
end Go.Proofs.YtecodlefcmjihaaGreat
