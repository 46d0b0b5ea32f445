/-
  No cell of these rows narrows 'for every input' (looked for: loops, veiled, ifaces, maps, wideKeys, modest, calm, conditions, laid).
  DERIVED. THE GIVEN ROWS OF THIS SEAT. 5 by the template 'for every input the law returns true; each argument reads behind the call as it read before'; 0 by the template 'total and deterministic' (their statements: YtekkjieoikgpmaaTotals.lean).
  GIVEN WITH THE SEED: the statements are not yours to turn. If you find one false, say at which input.
  Laid BY PROGRAM, IN A SANDBOX (cutbox-rows.mjs): the forced cells as the released guide's own fill.sh prints them over the translation 0284ad9aa28ccda8… (all of the seat's roots in one cut). By AI agents, Wed Nov 11 2026. No macro, syntax, notation, axiom, sorry.
-/
import Derived.Test.YtekkjieoikgpmaaChecked
import GoSem.Claim
import GoSem.ClaimJoined
import GoSem.ClaimMapViews
import Derived.JoinedTies
import Derived.KernelRfl
namespace Go.Proofs.Ytekkjieoikgpmaa
/- THE CELL 'sum', in the pinned program and in every row, IS THE sha256 OF THE DUMP (.gsa) THAT YtekkjieoikgpmaaProg.lean LOADS. Nothing in Lean hashes anything: it is a label: what it is worth is what the hold of that sum in a sandbox is worth. -/
noncomputable def Try.pinned : Pinned := { name := "ytekkjieoikgpmaa", sum := "0284ad9aa28ccda85a56212b0ee2f523bdc86fbf9a0bb46293ff7b6c94d09ce4", checked := Try.checked }
namespace Rows
def none {H : Type} : Left H := { results := [], args := [] }

/-- 'frisketlaw16.EnvFirst': WHATEVER THE INPUT: true; the input reads as it did. -/
def envFirstSpec : ChangeSpec := { name := "envFirst", fn := fun _ => fun
  | [d1, d2, d3] => { results := [.lit (.bool true)], args := [d1, d2, d3] }
  | _ => none }
def envFirstRow : OpenClaim := { program := "ytekkjieoikgpmaa", sum := "0284ad9aa28ccda85a56212b0ee2f523bdc86fbf9a0bb46293ff7b6c94d09ce4", func := "frisket/frisketlaw16.EnvFirst", spec := "envFirst", inPlace := ["internal/bytealg.IndexByteString", "internal/bytealg.IndexString"], unfollowed := true, recurses := true, named := ["internal/bytealg.MaxLen"], apart := false }
def EnvFirstSaid : Prop := envFirstRow.holds Try.pinned (OpenSpec.ofChange envFirstSpec)

/-- ITS FALSE NEIGHBOUR: 'it returns false'. Refute it at one input. -/
def envFirstWrong : ChangeSpec := { name := "envFirst", fn := fun _ => fun
  | [d1, d2, d3] => { results := [.lit (.bool false)], args := [d1, d2, d3] }
  | _ => none }
def EnvFirstWrongFalsely : Prop := envFirstRow.holds Try.pinned (OpenSpec.ofChange envFirstWrong)

/-- 'frisketlaw16.EnvNested': WHATEVER THE INPUT: true; the input reads as it did. -/
def envNestedSpec : ChangeSpec := { name := "envNested", fn := fun _ => fun
  | [d1, d2] => { results := [.lit (.bool true)], args := [d1, d2] }
  | _ => none }
def envNestedRow : OpenClaim := { program := "ytekkjieoikgpmaa", sum := "0284ad9aa28ccda85a56212b0ee2f523bdc86fbf9a0bb46293ff7b6c94d09ce4", func := "frisket/frisketlaw16.EnvNested", spec := "envNested", inPlace := ["internal/bytealg.IndexByteString", "internal/bytealg.IndexString"], unfollowed := true, recurses := true, named := ["internal/bytealg.MaxLen"], apart := false }
def EnvNestedSaid : Prop := envNestedRow.holds Try.pinned (OpenSpec.ofChange envNestedSpec)

/-- ITS FALSE NEIGHBOUR: 'it returns false'. Refute it at one input. -/
def envNestedWrong : ChangeSpec := { name := "envNested", fn := fun _ => fun
  | [d1, d2] => { results := [.lit (.bool false)], args := [d1, d2] }
  | _ => none }
def EnvNestedWrongFalsely : Prop := envNestedRow.holds Try.pinned (OpenSpec.ofChange envNestedWrong)

/-- 'frisketlaw16.EnvApart': WHATEVER THE INPUT: true; the input reads as it did. -/
def envApartSpec : ChangeSpec := { name := "envApart", fn := fun _ => fun
  | [d] => { results := [.lit (.bool true)], args := [d] }
  | _ => none }
def envApartRow : OpenClaim := { program := "ytekkjieoikgpmaa", sum := "0284ad9aa28ccda85a56212b0ee2f523bdc86fbf9a0bb46293ff7b6c94d09ce4", func := "frisket/frisketlaw16.EnvApart", spec := "envApart", inPlace := ["internal/bytealg.IndexByteString", "internal/bytealg.IndexString"], unfollowed := true, recurses := true, named := ["internal/bytealg.MaxLen"], apart := false }
def EnvApartSaid : Prop := envApartRow.holds Try.pinned (OpenSpec.ofChange envApartSpec)

/-- ITS FALSE NEIGHBOUR: 'it returns false'. Refute it at one input. -/
def envApartWrong : ChangeSpec := { name := "envApart", fn := fun _ => fun
  | [d] => { results := [.lit (.bool false)], args := [d] }
  | _ => none }
def EnvApartWrongFalsely : Prop := envApartRow.holds Try.pinned (OpenSpec.ofChange envApartWrong)

/-- 'frisketlaw16.EnvTakes': WHATEVER THE INPUT: true; the input reads as it did. -/
def envTakesSpec : ChangeSpec := { name := "envTakes", fn := fun _ => fun
  | [d1, d2, d3] => { results := [.lit (.bool true)], args := [d1, d2, d3] }
  | _ => none }
def envTakesRow : OpenClaim := { program := "ytekkjieoikgpmaa", sum := "0284ad9aa28ccda85a56212b0ee2f523bdc86fbf9a0bb46293ff7b6c94d09ce4", func := "frisket/frisketlaw16.EnvTakes", spec := "envTakes", inPlace := ["internal/bytealg.IndexByteString", "internal/bytealg.IndexString"], unfollowed := true, recurses := true, named := ["internal/bytealg.MaxLen"], apart := false }
def EnvTakesSaid : Prop := envTakesRow.holds Try.pinned (OpenSpec.ofChange envTakesSpec)

/-- ITS FALSE NEIGHBOUR: 'it returns false'. Refute it at one input. -/
def envTakesWrong : ChangeSpec := { name := "envTakes", fn := fun _ => fun
  | [d1, d2, d3] => { results := [.lit (.bool false)], args := [d1, d2, d3] }
  | _ => none }
def EnvTakesWrongFalsely : Prop := envTakesRow.holds Try.pinned (OpenSpec.ofChange envTakesWrong)

/-- 'frisketlaw16.EnvNothing': WHATEVER THE INPUT: true; the input reads as it did. -/
def envNothingSpec : ChangeSpec := { name := "envNothing", fn := fun _ => fun
  | [d] => { results := [.lit (.bool true)], args := [d] }
  | _ => none }
def envNothingRow : OpenClaim := { program := "ytekkjieoikgpmaa", sum := "0284ad9aa28ccda85a56212b0ee2f523bdc86fbf9a0bb46293ff7b6c94d09ce4", func := "frisket/frisketlaw16.EnvNothing", spec := "envNothing", inPlace := ["internal/bytealg.IndexByteString", "internal/bytealg.IndexString"], unfollowed := true, recurses := true, named := ["internal/bytealg.MaxLen"], apart := false }
def EnvNothingSaid : Prop := envNothingRow.holds Try.pinned (OpenSpec.ofChange envNothingSpec)

/-- ITS FALSE NEIGHBOUR: 'it returns false'. Refute it at one input. -/
def envNothingWrong : ChangeSpec := { name := "envNothing", fn := fun _ => fun
  | [d] => { results := [.lit (.bool false)], args := [d] }
  | _ => none }
def EnvNothingWrongFalsely : Prop := envNothingRow.holds Try.pinned (OpenSpec.ofChange envNothingWrong)

/- THE SECOND FORM. 'bulk': how many values and letters a reading holds, each counted each time it is reached (what is shared counts as often as it is met; a slice's spare places count too). A statement '..UptoSaid' is the law's where the arguments, and the package variables that the reading takes, are together of bulk at most 1048576: NARROWER than '..Said'. Prove '..Said' where nothing that the law and all that it calls make is longer than what came in: it says more and counts as full. Else prove '..UptoSaid'. A law counts once. -/
mutual
def uptoBulk {H : Type} : DataW H → Nat
  | .lit (.string bytes) => bytes.length + 1
  | .lit _ => 1
  | .nil => 1
  | .ptr d => uptoBulk d + 1
  | .slice elems spare => uptoBulkAll elems + uptoBulkAll spare + 1
  | .agg parts => uptoBulkAll parts + 1
  | .iface _ d => uptoBulk d + 1
  | .map entries => uptoBulkEntries entries + 1
  | .held _ => 1
def uptoBulkAll {H : Type} : List (DataW H) → Nat
  | [] => 0
  | d :: r => uptoBulk d + uptoBulkAll r
def uptoBulkEntries {H : Type} : List (Lit × DataW H) → Nat
  | [] => 0
  | x :: r => uptoBulkEntry x + uptoBulkEntries r
def uptoBulkEntry {H : Type} : Lit × DataW H → Nat
  | (.string bytes, d) => bytes.length + uptoBulk d + 1
  | (_, d) => uptoBulk d + 1
 end
def uptoSmall : (H : Type) → List (DataW H) → Bool := fun _ ds => decide (uptoBulkAll ds ≤ 1048576)
def OpenSpec.upto (s : _root_.Go.ChangeSpec) : _root_.Go.OpenSpec := { _root_.Go.OpenSpec.ofChange s with cond := some uptoSmall }

/-- 'frisketlaw16.EnvFirst', WHERE WHAT IT READS IS OF BULK AT MOST 1048576: true; the input reads as it did. -/
def envFirstUptoRow : OpenClaim := { program := "ytekkjieoikgpmaa", sum := "0284ad9aa28ccda85a56212b0ee2f523bdc86fbf9a0bb46293ff7b6c94d09ce4", func := "frisket/frisketlaw16.EnvFirst", spec := "envFirst", inPlace := ["internal/bytealg.IndexByteString", "internal/bytealg.IndexString"], unfollowed := true, recurses := true, named := ["internal/bytealg.MaxLen"], apart := false, narrowed := true }
def EnvFirstUptoSaid : Prop := envFirstUptoRow.holds Try.pinned (OpenSpec.upto envFirstSpec)

/-- 'frisketlaw16.EnvNested', WHERE WHAT IT READS IS OF BULK AT MOST 1048576: true; the input reads as it did. -/
def envNestedUptoRow : OpenClaim := { program := "ytekkjieoikgpmaa", sum := "0284ad9aa28ccda85a56212b0ee2f523bdc86fbf9a0bb46293ff7b6c94d09ce4", func := "frisket/frisketlaw16.EnvNested", spec := "envNested", inPlace := ["internal/bytealg.IndexByteString", "internal/bytealg.IndexString"], unfollowed := true, recurses := true, named := ["internal/bytealg.MaxLen"], apart := false, narrowed := true }
def EnvNestedUptoSaid : Prop := envNestedUptoRow.holds Try.pinned (OpenSpec.upto envNestedSpec)

/-- 'frisketlaw16.EnvApart', WHERE WHAT IT READS IS OF BULK AT MOST 1048576: true; the input reads as it did. -/
def envApartUptoRow : OpenClaim := { program := "ytekkjieoikgpmaa", sum := "0284ad9aa28ccda85a56212b0ee2f523bdc86fbf9a0bb46293ff7b6c94d09ce4", func := "frisket/frisketlaw16.EnvApart", spec := "envApart", inPlace := ["internal/bytealg.IndexByteString", "internal/bytealg.IndexString"], unfollowed := true, recurses := true, named := ["internal/bytealg.MaxLen"], apart := false, narrowed := true }
def EnvApartUptoSaid : Prop := envApartUptoRow.holds Try.pinned (OpenSpec.upto envApartSpec)

/-- 'frisketlaw16.EnvTakes', WHERE WHAT IT READS IS OF BULK AT MOST 1048576: true; the input reads as it did. -/
def envTakesUptoRow : OpenClaim := { program := "ytekkjieoikgpmaa", sum := "0284ad9aa28ccda85a56212b0ee2f523bdc86fbf9a0bb46293ff7b6c94d09ce4", func := "frisket/frisketlaw16.EnvTakes", spec := "envTakes", inPlace := ["internal/bytealg.IndexByteString", "internal/bytealg.IndexString"], unfollowed := true, recurses := true, named := ["internal/bytealg.MaxLen"], apart := false, narrowed := true }
def EnvTakesUptoSaid : Prop := envTakesUptoRow.holds Try.pinned (OpenSpec.upto envTakesSpec)

/-- 'frisketlaw16.EnvNothing', WHERE WHAT IT READS IS OF BULK AT MOST 1048576: true; the input reads as it did. -/
def envNothingUptoRow : OpenClaim := { program := "ytekkjieoikgpmaa", sum := "0284ad9aa28ccda85a56212b0ee2f523bdc86fbf9a0bb46293ff7b6c94d09ce4", func := "frisket/frisketlaw16.EnvNothing", spec := "envNothing", inPlace := ["internal/bytealg.IndexByteString", "internal/bytealg.IndexString"], unfollowed := true, recurses := true, named := ["internal/bytealg.MaxLen"], apart := false, narrowed := true }
def EnvNothingUptoSaid : Prop := envNothingUptoRow.holds Try.pinned (OpenSpec.upto envNothingSpec)

end Rows
end Go.Proofs.Ytekkjieoikgpmaa
