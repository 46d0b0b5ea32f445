/- Arguments opened: rows of numbers within their bounds. -/
import Derived.Test.YtekkjieoikgpmaaGSized
set_option linter.unusedVariables false
namespace Go.Proofs.Ytekkjieoikgpmaa
open Go.ChangeShapes Go.WideShapes Go.ChangeAt Go.RowKit Go.Deep
set_option maxRecDepth 1000000
theorem open_kindSA {H : Type} {enc : TypeId × Value → H} {P : Program} {w : World} {spare : Nat → Bool} {held : Bool} {α : Type} (d : Kind α) (Pz : α → Prop) {t e : TypeId} {r : Reach} {b0 : Nat} {v : Value} {x : DataW H} {ps : List MemPlace} (ht : P.underlying t = some (.slice e)) (hsz : P.cellsOf e = d.sz) (hs0 : 0 < d.sz)
    (hel : ∀ (n : Nat) (cs : List Value) (y : DataW H × List MemPlace), cs.length = d.sz → DataW.trod enc P w 0 spare held n e cs = some y → Light P e y.1 → ∃ z : α, d.K w (fun _ => True) z cs ∧ Pz z)
    (hval : Value.okWide P w r b0 t v) (h : DataW.Trod enc P w 0 spare held t v x ps) (hx : Light P t x) : ∃ A n c l, v = .slice A n c ∧ n ≤ c ∧ c ≤ maxLen ∧ d.Rd w (fun _ => True) A n l ∧ (∀ z ∈ l, Pz z) ∧ n * P.bytesOf e ≤ reachBytes := by
  obtain ⟨fuel, hf⟩ := h
  obtain ⟨A, n, c, l, hc, h1, h2, h3, h4, h5⟩ := open_kindS d Pz ht hsz hs0 hel hf hx
  exact ⟨A, n, c, l, okWide_slice_eq ht hval hc, h1, h2, h3, h4, h5⟩
section
variable {H : Type} {enc : TypeId × Value → H} {w : World} {spare : Nat → Bool} {held : Bool}
theorem int_elB (n : Nat) (cs : List Value) (y : DataW H × List MemPlace) (hl : cs.length = Kind.int.sz) (h : DataW.trod enc Try.prog w 0 spare held n 3 cs = some y) (hy : Light Try.prog 3 y.1) : ∃ z : Int, Kind.int.K w (fun _ => True) z cs ∧ (-9223372036854775808 ≤ z ∧ z ≤ 9223372036854775807) := by
  obtain ⟨k, e0, -, e2⟩ := DataW.trod_int Try.underlying3 h
  exact ⟨k, e0, i64_bounds e2⟩
end
end Go.Proofs.Ytekkjieoikgpmaa
