/-
  No cell of these rows narrows 'for every input' (looked for: loops, veiled, ifaces, maps, wideKeys, modest, calm, conditions, laid).
  DERIVED. THE GIVEN ROWS OF THIS SEAT. 7 by the template 'for every input the law returns true; each argument reads behind the call as it read before'; 0 by the template 'total and deterministic' (their statements: YteadghhmoggjnaaTotals.lean).
  GIVEN WITH THE SEED: the statements are not yours to turn. If you find one false, say at which input.
  Laid BY PROGRAM, IN A SANDBOX (cutbox-rows.mjs): the forced cells as the released guide's own fill.sh prints them over the translation 596fca3ea22b88eb… (all of the seat's roots in one cut). By AI agents, Wed Nov 11 2026. No macro, syntax, notation, axiom, sorry.
-/
import Derived.Test.YteadghhmoggjnaaChecked
import GoSem.Claim
import GoSem.ClaimJoined
import GoSem.ClaimMapViews
import Derived.JoinedTies
import Derived.KernelRfl
namespace Go.Proofs.Yteadghhmoggjnaa
/- THE CELL 'sum', in the pinned program and in every row, IS THE sha256 OF THE DUMP (.gsa) THAT YteadghhmoggjnaaProg.lean LOADS. Nothing in Lean hashes anything: it is a label: what it is worth is what the hold of that sum in a sandbox is worth. -/
noncomputable def Try.pinned : Pinned := { name := "yteadghhmoggjnaa", sum := "596fca3ea22b88ebd20d2de941b153421a2698780fee5a92a88ced4a28fffb7e", checked := Try.checked }
namespace Rows
def none {H : Type} : Left H := { results := [], args := [] }

/-- 'frisketlaw11.FillEnds': WHATEVER THE INPUT: true; the input reads as it did. -/
def fillEndsSpec : ChangeSpec := { name := "fillEnds", fn := fun _ => fun
  | [d1, d2, d3] => { results := [.lit (.bool true)], args := [d1, d2, d3] }
  | _ => none }
def fillEndsRow : OpenClaim := { program := "yteadghhmoggjnaa", sum := "596fca3ea22b88ebd20d2de941b153421a2698780fee5a92a88ced4a28fffb7e", func := "frisket/frisketlaw11.FillEnds", spec := "fillEnds", inPlace := ["internal/bytealg.IndexByteString", "internal/bytealg.IndexString"], unfollowed := true, recurses := true, named := ["internal/bytealg.MaxLen"], apart := false }
def FillEndsSaid : Prop := fillEndsRow.holds Try.pinned (OpenSpec.ofChange fillEndsSpec)

/-- ITS FALSE NEIGHBOUR: 'it returns false'. Refute it at one input. -/
def fillEndsWrong : ChangeSpec := { name := "fillEnds", fn := fun _ => fun
  | [d1, d2, d3] => { results := [.lit (.bool false)], args := [d1, d2, d3] }
  | _ => none }
def FillEndsWrongFalsely : Prop := fillEndsRow.holds Try.pinned (OpenSpec.ofChange fillEndsWrong)

/-- 'frisketlaw11.FillSides': WHATEVER THE INPUT: true; the input reads as it did. -/
def fillSidesSpec : ChangeSpec := { name := "fillSides", fn := fun _ => fun
  | [d1, d2] => { results := [.lit (.bool true)], args := [d1, d2] }
  | _ => none }
def fillSidesRow : OpenClaim := { program := "yteadghhmoggjnaa", sum := "596fca3ea22b88ebd20d2de941b153421a2698780fee5a92a88ced4a28fffb7e", func := "frisket/frisketlaw11.FillSides", spec := "fillSides", inPlace := ["internal/bytealg.IndexByteString", "internal/bytealg.IndexString"], unfollowed := true, recurses := true, named := ["internal/bytealg.MaxLen"], apart := false }
def FillSidesSaid : Prop := fillSidesRow.holds Try.pinned (OpenSpec.ofChange fillSidesSpec)

/-- ITS FALSE NEIGHBOUR: 'it returns false'. Refute it at one input. -/
def fillSidesWrong : ChangeSpec := { name := "fillSides", fn := fun _ => fun
  | [d1, d2] => { results := [.lit (.bool false)], args := [d1, d2] }
  | _ => none }
def FillSidesWrongFalsely : Prop := fillSidesRow.holds Try.pinned (OpenSpec.ofChange fillSidesWrong)

/-- 'frisketlaw11.FillAgain': WHATEVER THE INPUT: true; the input reads as it did. -/
def fillAgainSpec : ChangeSpec := { name := "fillAgain", fn := fun _ => fun
  | [d] => { results := [.lit (.bool true)], args := [d] }
  | _ => none }
def fillAgainRow : OpenClaim := { program := "yteadghhmoggjnaa", sum := "596fca3ea22b88ebd20d2de941b153421a2698780fee5a92a88ced4a28fffb7e", func := "frisket/frisketlaw11.FillAgain", spec := "fillAgain", inPlace := ["internal/bytealg.IndexByteString", "internal/bytealg.IndexString"], unfollowed := true, recurses := true, named := ["internal/bytealg.MaxLen"], apart := false }
def FillAgainSaid : Prop := fillAgainRow.holds Try.pinned (OpenSpec.ofChange fillAgainSpec)

/-- ITS FALSE NEIGHBOUR: 'it returns false'. Refute it at one input. -/
def fillAgainWrong : ChangeSpec := { name := "fillAgain", fn := fun _ => fun
  | [d] => { results := [.lit (.bool false)], args := [d] }
  | _ => none }
def FillAgainWrongFalsely : Prop := fillAgainRow.holds Try.pinned (OpenSpec.ofChange fillAgainWrong)

/-- 'frisketlaw11.FillKeeps': WHATEVER THE INPUT: true; the input reads as it did. -/
def fillKeepsSpec : ChangeSpec := { name := "fillKeeps", fn := fun _ => fun
  | [d1, d2, d3] => { results := [.lit (.bool true)], args := [d1, d2, d3] }
  | _ => none }
def fillKeepsRow : OpenClaim := { program := "yteadghhmoggjnaa", sum := "596fca3ea22b88ebd20d2de941b153421a2698780fee5a92a88ced4a28fffb7e", func := "frisket/frisketlaw11.FillKeeps", spec := "fillKeeps", inPlace := ["internal/bytealg.IndexByteString", "internal/bytealg.IndexString"], unfollowed := true, recurses := true, named := ["internal/bytealg.MaxLen"], apart := false }
def FillKeepsSaid : Prop := fillKeepsRow.holds Try.pinned (OpenSpec.ofChange fillKeepsSpec)

/-- ITS FALSE NEIGHBOUR: 'it returns false'. Refute it at one input. -/
def fillKeepsWrong : ChangeSpec := { name := "fillKeeps", fn := fun _ => fun
  | [d1, d2, d3] => { results := [.lit (.bool false)], args := [d1, d2, d3] }
  | _ => none }
def FillKeepsWrongFalsely : Prop := fillKeepsRow.holds Try.pinned (OpenSpec.ofChange fillKeepsWrong)

/-- 'frisketlaw11.FillFits': WHATEVER THE INPUT: true; the input reads as it did. -/
def fillFitsSpec : ChangeSpec := { name := "fillFits", fn := fun _ => fun
  | [d1, d2] => { results := [.lit (.bool true)], args := [d1, d2] }
  | _ => none }
def fillFitsRow : OpenClaim := { program := "yteadghhmoggjnaa", sum := "596fca3ea22b88ebd20d2de941b153421a2698780fee5a92a88ced4a28fffb7e", func := "frisket/frisketlaw11.FillFits", spec := "fillFits", inPlace := ["internal/bytealg.IndexByteString", "internal/bytealg.IndexString"], unfollowed := true, recurses := true, named := ["internal/bytealg.MaxLen"], apart := false }
def FillFitsSaid : Prop := fillFitsRow.holds Try.pinned (OpenSpec.ofChange fillFitsSpec)

/-- ITS FALSE NEIGHBOUR: 'it returns false'. Refute it at one input. -/
def fillFitsWrong : ChangeSpec := { name := "fillFits", fn := fun _ => fun
  | [d1, d2] => { results := [.lit (.bool false)], args := [d1, d2] }
  | _ => none }
def FillFitsWrongFalsely : Prop := fillFitsRow.holds Try.pinned (OpenSpec.ofChange fillFitsWrong)

/-- 'frisketlaw11.FillRaw': WHATEVER THE INPUT: true; the input reads as it did. -/
def fillRawSpec : ChangeSpec := { name := "fillRaw", fn := fun _ => fun
  | [d] => { results := [.lit (.bool true)], args := [d] }
  | _ => none }
def fillRawRow : OpenClaim := { program := "yteadghhmoggjnaa", sum := "596fca3ea22b88ebd20d2de941b153421a2698780fee5a92a88ced4a28fffb7e", func := "frisket/frisketlaw11.FillRaw", spec := "fillRaw", inPlace := ["internal/bytealg.IndexByteString", "internal/bytealg.IndexString"], unfollowed := true, recurses := true, named := ["internal/bytealg.MaxLen"], apart := false }
def FillRawSaid : Prop := fillRawRow.holds Try.pinned (OpenSpec.ofChange fillRawSpec)

/-- ITS FALSE NEIGHBOUR: 'it returns false'. Refute it at one input. -/
def fillRawWrong : ChangeSpec := { name := "fillRaw", fn := fun _ => fun
  | [d] => { results := [.lit (.bool false)], args := [d] }
  | _ => none }
def FillRawWrongFalsely : Prop := fillRawRow.holds Try.pinned (OpenSpec.ofChange fillRawWrong)

/-- 'frisketlaw11.FillMade': WHATEVER THE INPUT: true; the input reads as it did. -/
def fillMadeSpec : ChangeSpec := { name := "fillMade", fn := fun _ => fun
  | [d] => { results := [.lit (.bool true)], args := [d] }
  | _ => none }
def fillMadeRow : OpenClaim := { program := "yteadghhmoggjnaa", sum := "596fca3ea22b88ebd20d2de941b153421a2698780fee5a92a88ced4a28fffb7e", func := "frisket/frisketlaw11.FillMade", spec := "fillMade", inPlace := ["internal/bytealg.IndexByteString", "internal/bytealg.IndexString"], unfollowed := true, recurses := true, named := ["internal/bytealg.MaxLen"], apart := false }
def FillMadeSaid : Prop := fillMadeRow.holds Try.pinned (OpenSpec.ofChange fillMadeSpec)

/-- ITS FALSE NEIGHBOUR: 'it returns false'. Refute it at one input. -/
def fillMadeWrong : ChangeSpec := { name := "fillMade", fn := fun _ => fun
  | [d] => { results := [.lit (.bool false)], args := [d] }
  | _ => none }
def FillMadeWrongFalsely : Prop := fillMadeRow.holds Try.pinned (OpenSpec.ofChange fillMadeWrong)

/- THE SECOND FORM. 'bulk': how many values and letters a reading holds, each counted each time it is reached (what is shared counts as often as it is met; a slice's spare places count too). A statement '..UptoSaid' is the law's where the arguments, and the package variables that the reading takes, are together of bulk at most 1048576: NARROWER than '..Said'. Prove '..Said' where nothing that the law and all that it calls make is longer than what came in: it says more and counts as full. Else prove '..UptoSaid'. A law counts once. -/
mutual
def uptoBulk {H : Type} : DataW H → Nat
  | .lit (.string bytes) => bytes.length + 1
  | .lit _ => 1
  | .nil => 1
  | .ptr d => uptoBulk d + 1
  | .slice elems spare => uptoBulkAll elems + uptoBulkAll spare + 1
  | .agg parts => uptoBulkAll parts + 1
  | .iface _ d => uptoBulk d + 1
  | .map entries => uptoBulkEntries entries + 1
  | .held _ => 1
def uptoBulkAll {H : Type} : List (DataW H) → Nat
  | [] => 0
  | d :: r => uptoBulk d + uptoBulkAll r
def uptoBulkEntries {H : Type} : List (Lit × DataW H) → Nat
  | [] => 0
  | x :: r => uptoBulkEntry x + uptoBulkEntries r
def uptoBulkEntry {H : Type} : Lit × DataW H → Nat
  | (.string bytes, d) => bytes.length + uptoBulk d + 1
  | (_, d) => uptoBulk d + 1
 end
def uptoSmall : (H : Type) → List (DataW H) → Bool := fun _ ds => decide (uptoBulkAll ds ≤ 1048576)
def OpenSpec.upto (s : _root_.Go.ChangeSpec) : _root_.Go.OpenSpec := { _root_.Go.OpenSpec.ofChange s with cond := some uptoSmall }

/-- 'frisketlaw11.FillEnds', WHERE WHAT IT READS IS OF BULK AT MOST 1048576: true; the input reads as it did. -/
def fillEndsUptoRow : OpenClaim := { program := "yteadghhmoggjnaa", sum := "596fca3ea22b88ebd20d2de941b153421a2698780fee5a92a88ced4a28fffb7e", func := "frisket/frisketlaw11.FillEnds", spec := "fillEnds", inPlace := ["internal/bytealg.IndexByteString", "internal/bytealg.IndexString"], unfollowed := true, recurses := true, named := ["internal/bytealg.MaxLen"], apart := false, narrowed := true }
def FillEndsUptoSaid : Prop := fillEndsUptoRow.holds Try.pinned (OpenSpec.upto fillEndsSpec)

/-- 'frisketlaw11.FillSides', WHERE WHAT IT READS IS OF BULK AT MOST 1048576: true; the input reads as it did. -/
def fillSidesUptoRow : OpenClaim := { program := "yteadghhmoggjnaa", sum := "596fca3ea22b88ebd20d2de941b153421a2698780fee5a92a88ced4a28fffb7e", func := "frisket/frisketlaw11.FillSides", spec := "fillSides", inPlace := ["internal/bytealg.IndexByteString", "internal/bytealg.IndexString"], unfollowed := true, recurses := true, named := ["internal/bytealg.MaxLen"], apart := false, narrowed := true }
def FillSidesUptoSaid : Prop := fillSidesUptoRow.holds Try.pinned (OpenSpec.upto fillSidesSpec)

/-- 'frisketlaw11.FillAgain', WHERE WHAT IT READS IS OF BULK AT MOST 1048576: true; the input reads as it did. -/
def fillAgainUptoRow : OpenClaim := { program := "yteadghhmoggjnaa", sum := "596fca3ea22b88ebd20d2de941b153421a2698780fee5a92a88ced4a28fffb7e", func := "frisket/frisketlaw11.FillAgain", spec := "fillAgain", inPlace := ["internal/bytealg.IndexByteString", "internal/bytealg.IndexString"], unfollowed := true, recurses := true, named := ["internal/bytealg.MaxLen"], apart := false, narrowed := true }
def FillAgainUptoSaid : Prop := fillAgainUptoRow.holds Try.pinned (OpenSpec.upto fillAgainSpec)

/-- 'frisketlaw11.FillKeeps', WHERE WHAT IT READS IS OF BULK AT MOST 1048576: true; the input reads as it did. -/
def fillKeepsUptoRow : OpenClaim := { program := "yteadghhmoggjnaa", sum := "596fca3ea22b88ebd20d2de941b153421a2698780fee5a92a88ced4a28fffb7e", func := "frisket/frisketlaw11.FillKeeps", spec := "fillKeeps", inPlace := ["internal/bytealg.IndexByteString", "internal/bytealg.IndexString"], unfollowed := true, recurses := true, named := ["internal/bytealg.MaxLen"], apart := false, narrowed := true }
def FillKeepsUptoSaid : Prop := fillKeepsUptoRow.holds Try.pinned (OpenSpec.upto fillKeepsSpec)

/-- 'frisketlaw11.FillFits', WHERE WHAT IT READS IS OF BULK AT MOST 1048576: true; the input reads as it did. -/
def fillFitsUptoRow : OpenClaim := { program := "yteadghhmoggjnaa", sum := "596fca3ea22b88ebd20d2de941b153421a2698780fee5a92a88ced4a28fffb7e", func := "frisket/frisketlaw11.FillFits", spec := "fillFits", inPlace := ["internal/bytealg.IndexByteString", "internal/bytealg.IndexString"], unfollowed := true, recurses := true, named := ["internal/bytealg.MaxLen"], apart := false, narrowed := true }
def FillFitsUptoSaid : Prop := fillFitsUptoRow.holds Try.pinned (OpenSpec.upto fillFitsSpec)

/-- 'frisketlaw11.FillRaw', WHERE WHAT IT READS IS OF BULK AT MOST 1048576: true; the input reads as it did. -/
def fillRawUptoRow : OpenClaim := { program := "yteadghhmoggjnaa", sum := "596fca3ea22b88ebd20d2de941b153421a2698780fee5a92a88ced4a28fffb7e", func := "frisket/frisketlaw11.FillRaw", spec := "fillRaw", inPlace := ["internal/bytealg.IndexByteString", "internal/bytealg.IndexString"], unfollowed := true, recurses := true, named := ["internal/bytealg.MaxLen"], apart := false, narrowed := true }
def FillRawUptoSaid : Prop := fillRawUptoRow.holds Try.pinned (OpenSpec.upto fillRawSpec)

/-- 'frisketlaw11.FillMade', WHERE WHAT IT READS IS OF BULK AT MOST 1048576: true; the input reads as it did. -/
def fillMadeUptoRow : OpenClaim := { program := "yteadghhmoggjnaa", sum := "596fca3ea22b88ebd20d2de941b153421a2698780fee5a92a88ced4a28fffb7e", func := "frisket/frisketlaw11.FillMade", spec := "fillMade", inPlace := ["internal/bytealg.IndexByteString", "internal/bytealg.IndexString"], unfollowed := true, recurses := true, named := ["internal/bytealg.MaxLen"], apart := false, narrowed := true }
def FillMadeUptoSaid : Prop := fillMadeUptoRow.holds Try.pinned (OpenSpec.upto fillMadeSpec)

end Rows
end Go.Proofs.Yteadghhmoggjnaa
