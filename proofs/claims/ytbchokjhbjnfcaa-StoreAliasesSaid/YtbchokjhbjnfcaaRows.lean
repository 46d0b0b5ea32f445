/-
  No cell of these rows narrows 'for every input' (looked for: loops, veiled, ifaces, maps, wideKeys, modest, calm, conditions, laid).
  DERIVED. THE GIVEN ROWS OF THIS SEAT. 5 by the template 'for every input the law returns true; each argument reads behind the call as it read before'; 0 by the template 'total and deterministic' (their statements: YtbchokjhbjnfcaaTotals.lean).
  GIVEN WITH THE SEED: the statements are not yours to turn. If you find one false, say at which input.
  Laid BY PROGRAM, IN A SANDBOX (cutbox-rows.mjs): the forced cells as the released guide's own fill.sh prints them over the translation dd5b06d336782806… (all of the seat's roots in one cut). By AI agents, Wed Nov 11 2026. No macro, syntax, notation, axiom, sorry.
-/
import Derived.Test.YtbchokjhbjnfcaaChecked
import GoSem.Claim
import GoSem.ClaimJoined
import GoSem.ClaimMapViews
import Derived.JoinedTies
import Derived.KernelRfl
namespace Go.Proofs.Ytbchokjhbjnfcaa
/- THE CELL 'sum', in the pinned program and in every row, IS THE sha256 OF THE DUMP (.gsa) THAT YtbchokjhbjnfcaaProg.lean LOADS. Nothing in Lean hashes anything: it is a label: what it is worth is what the hold of that sum in a sandbox is worth. -/
noncomputable def Try.pinned : Pinned := { name := "ytbchokjhbjnfcaa", sum := "dd5b06d33678280689bc0cd60f3c923c5cd0a8cabd7298949e4db60f9e7eaf0f", checked := Try.checked }
namespace Rows
def none {H : Type} : Left H := { results := [], args := [] }

/-- 'frisketlaw03.StoreParts': WHATEVER THE INPUT: true; the input reads as it did. -/
def storePartsSpec : ChangeSpec := { name := "storeParts", fn := fun _ => fun
  | [d1, d2, d3] => { results := [.lit (.bool true)], args := [d1, d2, d3] }
  | _ => none }
def storePartsRow : OpenClaim := { program := "ytbchokjhbjnfcaa", sum := "dd5b06d33678280689bc0cd60f3c923c5cd0a8cabd7298949e4db60f9e7eaf0f", func := "frisket/frisketlaw03.StoreParts", spec := "storeParts", inPlace := ["internal/bytealg.IndexByteString", "internal/bytealg.IndexString"], unfollowed := true, recurses := true, named := ["internal/bytealg.MaxLen"], apart := false }
def StorePartsSaid : Prop := storePartsRow.holds Try.pinned (OpenSpec.ofChange storePartsSpec)

/-- ITS FALSE NEIGHBOUR: 'it returns false'. Refute it at one input. -/
def storePartsWrong : ChangeSpec := { name := "storeParts", fn := fun _ => fun
  | [d1, d2, d3] => { results := [.lit (.bool false)], args := [d1, d2, d3] }
  | _ => none }
def StorePartsWrongFalsely : Prop := storePartsRow.holds Try.pinned (OpenSpec.ofChange storePartsWrong)

/-- 'frisketlaw03.StoreFull': WHATEVER THE INPUT: true; the input reads as it did. -/
def storeFullSpec : ChangeSpec := { name := "storeFull", fn := fun _ => fun
  | [d] => { results := [.lit (.bool true)], args := [d] }
  | _ => none }
def storeFullRow : OpenClaim := { program := "ytbchokjhbjnfcaa", sum := "dd5b06d33678280689bc0cd60f3c923c5cd0a8cabd7298949e4db60f9e7eaf0f", func := "frisket/frisketlaw03.StoreFull", spec := "storeFull", inPlace := ["internal/bytealg.IndexByteString", "internal/bytealg.IndexString"], unfollowed := true, recurses := true, named := ["internal/bytealg.MaxLen"], apart := false }
def StoreFullSaid : Prop := storeFullRow.holds Try.pinned (OpenSpec.ofChange storeFullSpec)

/-- ITS FALSE NEIGHBOUR: 'it returns false'. Refute it at one input. -/
def storeFullWrong : ChangeSpec := { name := "storeFull", fn := fun _ => fun
  | [d] => { results := [.lit (.bool false)], args := [d] }
  | _ => none }
def StoreFullWrongFalsely : Prop := storeFullRow.holds Try.pinned (OpenSpec.ofChange storeFullWrong)

/-- 'frisketlaw03.StoreAppends': WHATEVER THE INPUT: true; the input reads as it did. -/
def storeAppendsSpec : ChangeSpec := { name := "storeAppends", fn := fun _ => fun
  | [d1, d2, d3] => { results := [.lit (.bool true)], args := [d1, d2, d3] }
  | _ => none }
def storeAppendsRow : OpenClaim := { program := "ytbchokjhbjnfcaa", sum := "dd5b06d33678280689bc0cd60f3c923c5cd0a8cabd7298949e4db60f9e7eaf0f", func := "frisket/frisketlaw03.StoreAppends", spec := "storeAppends", inPlace := ["internal/bytealg.IndexByteString", "internal/bytealg.IndexString"], unfollowed := true, recurses := true, named := ["internal/bytealg.MaxLen"], apart := false }
def StoreAppendsSaid : Prop := storeAppendsRow.holds Try.pinned (OpenSpec.ofChange storeAppendsSpec)

/-- ITS FALSE NEIGHBOUR: 'it returns false'. Refute it at one input. -/
def storeAppendsWrong : ChangeSpec := { name := "storeAppends", fn := fun _ => fun
  | [d1, d2, d3] => { results := [.lit (.bool false)], args := [d1, d2, d3] }
  | _ => none }
def StoreAppendsWrongFalsely : Prop := storeAppendsRow.holds Try.pinned (OpenSpec.ofChange storeAppendsWrong)

/-- 'frisketlaw03.StoreNothing': WHATEVER THE INPUT: true; the input reads as it did. -/
def storeNothingSpec : ChangeSpec := { name := "storeNothing", fn := fun _ => fun
  | [d] => { results := [.lit (.bool true)], args := [d] }
  | _ => none }
def storeNothingRow : OpenClaim := { program := "ytbchokjhbjnfcaa", sum := "dd5b06d33678280689bc0cd60f3c923c5cd0a8cabd7298949e4db60f9e7eaf0f", func := "frisket/frisketlaw03.StoreNothing", spec := "storeNothing", inPlace := ["internal/bytealg.IndexByteString", "internal/bytealg.IndexString"], unfollowed := true, recurses := true, named := ["internal/bytealg.MaxLen"], apart := false }
def StoreNothingSaid : Prop := storeNothingRow.holds Try.pinned (OpenSpec.ofChange storeNothingSpec)

/-- ITS FALSE NEIGHBOUR: 'it returns false'. Refute it at one input. -/
def storeNothingWrong : ChangeSpec := { name := "storeNothing", fn := fun _ => fun
  | [d] => { results := [.lit (.bool false)], args := [d] }
  | _ => none }
def StoreNothingWrongFalsely : Prop := storeNothingRow.holds Try.pinned (OpenSpec.ofChange storeNothingWrong)

/-- 'frisketlaw03.StoreAliases': WHATEVER THE INPUT: true; the input reads as it did. -/
def storeAliasesSpec : ChangeSpec := { name := "storeAliases", fn := fun _ => fun
  | [d] => { results := [.lit (.bool true)], args := [d] }
  | _ => none }
def storeAliasesRow : OpenClaim := { program := "ytbchokjhbjnfcaa", sum := "dd5b06d33678280689bc0cd60f3c923c5cd0a8cabd7298949e4db60f9e7eaf0f", func := "frisket/frisketlaw03.StoreAliases", spec := "storeAliases", inPlace := ["internal/bytealg.IndexByteString", "internal/bytealg.IndexString"], unfollowed := true, recurses := true, named := ["internal/bytealg.MaxLen"], apart := false }
def StoreAliasesSaid : Prop := storeAliasesRow.holds Try.pinned (OpenSpec.ofChange storeAliasesSpec)

/-- ITS FALSE NEIGHBOUR: 'it returns false'. Refute it at one input. -/
def storeAliasesWrong : ChangeSpec := { name := "storeAliases", fn := fun _ => fun
  | [d] => { results := [.lit (.bool false)], args := [d] }
  | _ => none }
def StoreAliasesWrongFalsely : Prop := storeAliasesRow.holds Try.pinned (OpenSpec.ofChange storeAliasesWrong)

/- THE SECOND FORM. 'bulk': how many values and letters a reading holds, each counted each time it is reached (what is shared counts as often as it is met; a slice's spare places count too). A statement '..UptoSaid' is the law's where the arguments, and the package variables that the reading takes, are together of bulk at most 1048576: NARROWER than '..Said'. Prove '..Said' where nothing that the law and all that it calls make is longer than what came in: it says more and counts as full. Else prove '..UptoSaid'. A law counts once. -/
mutual
def uptoBulk {H : Type} : DataW H → Nat
  | .lit (.string bytes) => bytes.length + 1
  | .lit _ => 1
  | .nil => 1
  | .ptr d => uptoBulk d + 1
  | .slice elems spare => uptoBulkAll elems + uptoBulkAll spare + 1
  | .agg parts => uptoBulkAll parts + 1
  | .iface _ d => uptoBulk d + 1
  | .map entries => uptoBulkEntries entries + 1
  | .held _ => 1
def uptoBulkAll {H : Type} : List (DataW H) → Nat
  | [] => 0
  | d :: r => uptoBulk d + uptoBulkAll r
def uptoBulkEntries {H : Type} : List (Lit × DataW H) → Nat
  | [] => 0
  | x :: r => uptoBulkEntry x + uptoBulkEntries r
def uptoBulkEntry {H : Type} : Lit × DataW H → Nat
  | (.string bytes, d) => bytes.length + uptoBulk d + 1
  | (_, d) => uptoBulk d + 1
 end
def uptoSmall : (H : Type) → List (DataW H) → Bool := fun _ ds => decide (uptoBulkAll ds ≤ 1048576)
def OpenSpec.upto (s : _root_.Go.ChangeSpec) : _root_.Go.OpenSpec := { _root_.Go.OpenSpec.ofChange s with cond := some uptoSmall }

/-- 'frisketlaw03.StoreParts', WHERE WHAT IT READS IS OF BULK AT MOST 1048576: true; the input reads as it did. -/
def storePartsUptoRow : OpenClaim := { program := "ytbchokjhbjnfcaa", sum := "dd5b06d33678280689bc0cd60f3c923c5cd0a8cabd7298949e4db60f9e7eaf0f", func := "frisket/frisketlaw03.StoreParts", spec := "storeParts", inPlace := ["internal/bytealg.IndexByteString", "internal/bytealg.IndexString"], unfollowed := true, recurses := true, named := ["internal/bytealg.MaxLen"], apart := false, narrowed := true }
def StorePartsUptoSaid : Prop := storePartsUptoRow.holds Try.pinned (OpenSpec.upto storePartsSpec)

/-- 'frisketlaw03.StoreFull', WHERE WHAT IT READS IS OF BULK AT MOST 1048576: true; the input reads as it did. -/
def storeFullUptoRow : OpenClaim := { program := "ytbchokjhbjnfcaa", sum := "dd5b06d33678280689bc0cd60f3c923c5cd0a8cabd7298949e4db60f9e7eaf0f", func := "frisket/frisketlaw03.StoreFull", spec := "storeFull", inPlace := ["internal/bytealg.IndexByteString", "internal/bytealg.IndexString"], unfollowed := true, recurses := true, named := ["internal/bytealg.MaxLen"], apart := false, narrowed := true }
def StoreFullUptoSaid : Prop := storeFullUptoRow.holds Try.pinned (OpenSpec.upto storeFullSpec)

/-- 'frisketlaw03.StoreAppends', WHERE WHAT IT READS IS OF BULK AT MOST 1048576: true; the input reads as it did. -/
def storeAppendsUptoRow : OpenClaim := { program := "ytbchokjhbjnfcaa", sum := "dd5b06d33678280689bc0cd60f3c923c5cd0a8cabd7298949e4db60f9e7eaf0f", func := "frisket/frisketlaw03.StoreAppends", spec := "storeAppends", inPlace := ["internal/bytealg.IndexByteString", "internal/bytealg.IndexString"], unfollowed := true, recurses := true, named := ["internal/bytealg.MaxLen"], apart := false, narrowed := true }
def StoreAppendsUptoSaid : Prop := storeAppendsUptoRow.holds Try.pinned (OpenSpec.upto storeAppendsSpec)

/-- 'frisketlaw03.StoreNothing', WHERE WHAT IT READS IS OF BULK AT MOST 1048576: true; the input reads as it did. -/
def storeNothingUptoRow : OpenClaim := { program := "ytbchokjhbjnfcaa", sum := "dd5b06d33678280689bc0cd60f3c923c5cd0a8cabd7298949e4db60f9e7eaf0f", func := "frisket/frisketlaw03.StoreNothing", spec := "storeNothing", inPlace := ["internal/bytealg.IndexByteString", "internal/bytealg.IndexString"], unfollowed := true, recurses := true, named := ["internal/bytealg.MaxLen"], apart := false, narrowed := true }
def StoreNothingUptoSaid : Prop := storeNothingUptoRow.holds Try.pinned (OpenSpec.upto storeNothingSpec)

/-- 'frisketlaw03.StoreAliases', WHERE WHAT IT READS IS OF BULK AT MOST 1048576: true; the input reads as it did. -/
def storeAliasesUptoRow : OpenClaim := { program := "ytbchokjhbjnfcaa", sum := "dd5b06d33678280689bc0cd60f3c923c5cd0a8cabd7298949e4db60f9e7eaf0f", func := "frisket/frisketlaw03.StoreAliases", spec := "storeAliases", inPlace := ["internal/bytealg.IndexByteString", "internal/bytealg.IndexString"], unfollowed := true, recurses := true, named := ["internal/bytealg.MaxLen"], apart := false, narrowed := true }
def StoreAliasesUptoSaid : Prop := storeAliasesUptoRow.holds Try.pinned (OpenSpec.upto storeAliasesSpec)

end Rows
end Go.Proofs.Ytbchokjhbjnfcaa
