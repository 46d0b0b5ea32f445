/-
  No cell of these rows narrows 'for every input' (looked for: loops, veiled, ifaces, maps, wideKeys, modest, calm, conditions, laid).
  DERIVED. THE GIVEN ROWS OF THIS SEAT. 5 by the template 'for every input the law returns true; each argument reads behind the call as it read before'; 0 by the template 'total and deterministic' (their statements: YtpndigonlgnbeaaTotals.lean).
  GIVEN WITH THE SEED: the statements are not yours to turn. If you find one false, say at which input.
  Laid BY PROGRAM, IN A SANDBOX (cutbox-rows.mjs): the forced cells as the released guide's own fill.sh prints them over the translation 669b03861ef476d8… (all of the seat's roots in one cut). By AI agents, Wed Nov 11 2026. No macro, syntax, notation, axiom, sorry.
-/
import Derived.Test.YtpndigonlgnbeaaChecked
import GoSem.Claim
import GoSem.ClaimJoined
import GoSem.ClaimMapViews
import Derived.JoinedTies
import Derived.KernelRfl
namespace Go.Proofs.Ytpndigonlgnbeaa
/- THE CELL 'sum', in the pinned program and in every row, IS THE sha256 OF THE DUMP (.gsa) THAT YtpndigonlgnbeaaProg.lean LOADS. Nothing in Lean hashes anything: it is a label: what it is worth is what the hold of that sum in a sandbox is worth. -/
noncomputable def Try.pinned : Pinned := { name := "ytpndigonlgnbeaa", sum := "669b03861ef476d8ed77780069236170eba522e3236e666f6052edf870e293dc", checked := Try.checked }
namespace Rows
def none {H : Type} : Left H := { results := [], args := [] }

/-- 'frisketlaw15.TrapWays': WHATEVER THE INPUT: true; the input reads as it did. -/
def trapWaysSpec : ChangeSpec := { name := "trapWays", fn := fun _ => fun
  | [d1, d2, d3] => { results := [.lit (.bool true)], args := [d1, d2, d3] }
  | _ => none }
def trapWaysRow : OpenClaim := { program := "ytpndigonlgnbeaa", sum := "669b03861ef476d8ed77780069236170eba522e3236e666f6052edf870e293dc", func := "frisket/frisketlaw15.TrapWays", spec := "trapWays", unfollowed := true, recurses := true, apart := false }
def TrapWaysSaid : Prop := trapWaysRow.holds Try.pinned (OpenSpec.ofChange trapWaysSpec)

/-- ITS FALSE NEIGHBOUR: 'it returns false'. Refute it at one input. -/
def trapWaysWrong : ChangeSpec := { name := "trapWays", fn := fun _ => fun
  | [d1, d2, d3] => { results := [.lit (.bool false)], args := [d1, d2, d3] }
  | _ => none }
def TrapWaysWrongFalsely : Prop := trapWaysRow.holds Try.pinned (OpenSpec.ofChange trapWaysWrong)

/-- 'frisketlaw15.TrapPlays': WHATEVER THE INPUT: true; the input reads as it did. -/
def trapPlaysSpec : ChangeSpec := { name := "trapPlays", fn := fun _ => fun
  | [d] => { results := [.lit (.bool true)], args := [d] }
  | _ => none }
def trapPlaysRow : OpenClaim := { program := "ytpndigonlgnbeaa", sum := "669b03861ef476d8ed77780069236170eba522e3236e666f6052edf870e293dc", func := "frisket/frisketlaw15.TrapPlays", spec := "trapPlays", unfollowed := true, recurses := true, apart := false }
def TrapPlaysSaid : Prop := trapPlaysRow.holds Try.pinned (OpenSpec.ofChange trapPlaysSpec)

/-- ITS FALSE NEIGHBOUR: 'it returns false'. Refute it at one input. -/
def trapPlaysWrong : ChangeSpec := { name := "trapPlays", fn := fun _ => fun
  | [d] => { results := [.lit (.bool false)], args := [d] }
  | _ => none }
def TrapPlaysWrongFalsely : Prop := trapPlaysRow.holds Try.pinned (OpenSpec.ofChange trapPlaysWrong)

/-- 'frisketlaw15.TrapFirst': WHATEVER THE INPUT: true; the input reads as it did. -/
def trapFirstSpec : ChangeSpec := { name := "trapFirst", fn := fun _ => fun
  | [d1, d2] => { results := [.lit (.bool true)], args := [d1, d2] }
  | _ => none }
def trapFirstRow : OpenClaim := { program := "ytpndigonlgnbeaa", sum := "669b03861ef476d8ed77780069236170eba522e3236e666f6052edf870e293dc", func := "frisket/frisketlaw15.TrapFirst", spec := "trapFirst", unfollowed := true, recurses := true, apart := false }
def TrapFirstSaid : Prop := trapFirstRow.holds Try.pinned (OpenSpec.ofChange trapFirstSpec)

/-- ITS FALSE NEIGHBOUR: 'it returns false'. Refute it at one input. -/
def trapFirstWrong : ChangeSpec := { name := "trapFirst", fn := fun _ => fun
  | [d1, d2] => { results := [.lit (.bool false)], args := [d1, d2] }
  | _ => none }
def TrapFirstWrongFalsely : Prop := trapFirstRow.holds Try.pinned (OpenSpec.ofChange trapFirstWrong)

/-- 'frisketlaw15.TrapCopies': WHATEVER THE INPUT: true; the input reads as it did. -/
def trapCopiesSpec : ChangeSpec := { name := "trapCopies", fn := fun _ => fun
  | [d1, d2, d3] => { results := [.lit (.bool true)], args := [d1, d2, d3] }
  | _ => none }
def trapCopiesRow : OpenClaim := { program := "ytpndigonlgnbeaa", sum := "669b03861ef476d8ed77780069236170eba522e3236e666f6052edf870e293dc", func := "frisket/frisketlaw15.TrapCopies", spec := "trapCopies", unfollowed := true, recurses := true, apart := false }
def TrapCopiesSaid : Prop := trapCopiesRow.holds Try.pinned (OpenSpec.ofChange trapCopiesSpec)

/-- ITS FALSE NEIGHBOUR: 'it returns false'. Refute it at one input. -/
def trapCopiesWrong : ChangeSpec := { name := "trapCopies", fn := fun _ => fun
  | [d1, d2, d3] => { results := [.lit (.bool false)], args := [d1, d2, d3] }
  | _ => none }
def TrapCopiesWrongFalsely : Prop := trapCopiesRow.holds Try.pinned (OpenSpec.ofChange trapCopiesWrong)

/-- 'frisketlaw15.TrapNothing': WHATEVER THE INPUT: true; the input reads as it did. -/
def trapNothingSpec : ChangeSpec := { name := "trapNothing", fn := fun _ => fun
  | [d1, d2] => { results := [.lit (.bool true)], args := [d1, d2] }
  | _ => none }
def trapNothingRow : OpenClaim := { program := "ytpndigonlgnbeaa", sum := "669b03861ef476d8ed77780069236170eba522e3236e666f6052edf870e293dc", func := "frisket/frisketlaw15.TrapNothing", spec := "trapNothing", unfollowed := true, recurses := true, apart := false }
def TrapNothingSaid : Prop := trapNothingRow.holds Try.pinned (OpenSpec.ofChange trapNothingSpec)

/-- ITS FALSE NEIGHBOUR: 'it returns false'. Refute it at one input. -/
def trapNothingWrong : ChangeSpec := { name := "trapNothing", fn := fun _ => fun
  | [d1, d2] => { results := [.lit (.bool false)], args := [d1, d2] }
  | _ => none }
def TrapNothingWrongFalsely : Prop := trapNothingRow.holds Try.pinned (OpenSpec.ofChange trapNothingWrong)

/- THE SECOND FORM. 'bulk': how many values and letters a reading holds, each counted each time it is reached (what is shared counts as often as it is met; a slice's spare places count too). A statement '..UptoSaid' is the law's where the arguments, and the package variables that the reading takes, are together of bulk at most 1048576: NARROWER than '..Said'. Prove '..Said' where nothing that the law and all that it calls make is longer than what came in: it says more and counts as full. Else prove '..UptoSaid'. A law counts once. -/
mutual
def uptoBulk {H : Type} : DataW H → Nat
  | .lit (.string bytes) => bytes.length + 1
  | .lit _ => 1
  | .nil => 1
  | .ptr d => uptoBulk d + 1
  | .slice elems spare => uptoBulkAll elems + uptoBulkAll spare + 1
  | .agg parts => uptoBulkAll parts + 1
  | .iface _ d => uptoBulk d + 1
  | .map entries => uptoBulkEntries entries + 1
  | .held _ => 1
def uptoBulkAll {H : Type} : List (DataW H) → Nat
  | [] => 0
  | d :: r => uptoBulk d + uptoBulkAll r
def uptoBulkEntries {H : Type} : List (Lit × DataW H) → Nat
  | [] => 0
  | x :: r => uptoBulkEntry x + uptoBulkEntries r
def uptoBulkEntry {H : Type} : Lit × DataW H → Nat
  | (.string bytes, d) => bytes.length + uptoBulk d + 1
  | (_, d) => uptoBulk d + 1
 end
def uptoSmall : (H : Type) → List (DataW H) → Bool := fun _ ds => decide (uptoBulkAll ds ≤ 1048576)
def OpenSpec.upto (s : _root_.Go.ChangeSpec) : _root_.Go.OpenSpec := { _root_.Go.OpenSpec.ofChange s with cond := some uptoSmall }

/-- 'frisketlaw15.TrapWays', WHERE WHAT IT READS IS OF BULK AT MOST 1048576: true; the input reads as it did. -/
def trapWaysUptoRow : OpenClaim := { program := "ytpndigonlgnbeaa", sum := "669b03861ef476d8ed77780069236170eba522e3236e666f6052edf870e293dc", func := "frisket/frisketlaw15.TrapWays", spec := "trapWays", unfollowed := true, recurses := true, apart := false, narrowed := true }
def TrapWaysUptoSaid : Prop := trapWaysUptoRow.holds Try.pinned (OpenSpec.upto trapWaysSpec)

/-- 'frisketlaw15.TrapPlays', WHERE WHAT IT READS IS OF BULK AT MOST 1048576: true; the input reads as it did. -/
def trapPlaysUptoRow : OpenClaim := { program := "ytpndigonlgnbeaa", sum := "669b03861ef476d8ed77780069236170eba522e3236e666f6052edf870e293dc", func := "frisket/frisketlaw15.TrapPlays", spec := "trapPlays", unfollowed := true, recurses := true, apart := false, narrowed := true }
def TrapPlaysUptoSaid : Prop := trapPlaysUptoRow.holds Try.pinned (OpenSpec.upto trapPlaysSpec)

/-- 'frisketlaw15.TrapFirst', WHERE WHAT IT READS IS OF BULK AT MOST 1048576: true; the input reads as it did. -/
def trapFirstUptoRow : OpenClaim := { program := "ytpndigonlgnbeaa", sum := "669b03861ef476d8ed77780069236170eba522e3236e666f6052edf870e293dc", func := "frisket/frisketlaw15.TrapFirst", spec := "trapFirst", unfollowed := true, recurses := true, apart := false, narrowed := true }
def TrapFirstUptoSaid : Prop := trapFirstUptoRow.holds Try.pinned (OpenSpec.upto trapFirstSpec)

/-- 'frisketlaw15.TrapCopies', WHERE WHAT IT READS IS OF BULK AT MOST 1048576: true; the input reads as it did. -/
def trapCopiesUptoRow : OpenClaim := { program := "ytpndigonlgnbeaa", sum := "669b03861ef476d8ed77780069236170eba522e3236e666f6052edf870e293dc", func := "frisket/frisketlaw15.TrapCopies", spec := "trapCopies", unfollowed := true, recurses := true, apart := false, narrowed := true }
def TrapCopiesUptoSaid : Prop := trapCopiesUptoRow.holds Try.pinned (OpenSpec.upto trapCopiesSpec)

/-- 'frisketlaw15.TrapNothing', WHERE WHAT IT READS IS OF BULK AT MOST 1048576: true; the input reads as it did. -/
def trapNothingUptoRow : OpenClaim := { program := "ytpndigonlgnbeaa", sum := "669b03861ef476d8ed77780069236170eba522e3236e666f6052edf870e293dc", func := "frisket/frisketlaw15.TrapNothing", spec := "trapNothing", unfollowed := true, recurses := true, apart := false, narrowed := true }
def TrapNothingUptoSaid : Prop := trapNothingUptoRow.holds Try.pinned (OpenSpec.upto trapNothingSpec)

end Rows
end Go.Proofs.Ytpndigonlgnbeaa
