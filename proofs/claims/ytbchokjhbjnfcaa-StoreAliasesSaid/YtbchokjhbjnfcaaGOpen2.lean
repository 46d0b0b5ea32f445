/- Arguments opened: a slice that is a field of a struct. -/
import Derived.Test.YtbchokjhbjnfcaaGOpen
import Derived.Lib.SmallJoins
set_option linter.unusedVariables false
namespace Go.Proofs.Ytbchokjhbjnfcaa
open Go.ChangeShapes Go.WideShapes Go.ChangeAt Go.RowKit Go.Deep
section
variable {H : Type} {enc : TypeId × Value → H} {P : Program} {w : World} {spare : Nat → Bool} {held : Bool}
theorem open_kind_cells {α : Type} (d : Kind α) {t e : TypeId} {cs0 : List Value} {x : DataW H × List MemPlace} {fuel : Nat} (ht : P.underlying t = some (.slice e)) (hsz : P.cellsOf e = d.sz) (hs0 : 0 < d.sz)
    (hel : ∀ (n : Nat) (cs : List Value) (y : DataW H × List MemPlace), cs.length = d.sz → DataW.trod enc P w 0 spare held n e cs = some y → ∃ z : α, d.K w (fun _ => True) z cs)
    (hf : DataW.trod enc P w 0 spare held fuel t cs0 = some x) : ∃ A n c l, cs0 = [.slice A n c] ∧ n ≤ c ∧ c ≤ maxLen ∧ d.Rd w (fun _ => True) A n l := by
  rcases open_slice ht hf with ⟨hc, -⟩ | ⟨a, len, cap, m, n, D, Pl, hc, hb, hl, hm, hmm, -, hi⟩
  · exact ⟨none, 0, 0, [], hc, Nat.le_refl _, Nat.zero_le _, Kind.Rd.nil _ _ _ _⟩
  · refine ⟨some a, len, cap, ?_⟩
    have hlm : len ≤ m := by rw [hmm]; split <;> omega
    have hq : ∀ i, i < len → ∃ z : α, ∃ cs, d.K w (fun _ => True) z cs ∧ ∀ j u, cs[j]? = some u → w.cell? (a.add (i * d.sz + j)) = some u := by
      intro i hil
      obtain ⟨cs', h1, h2⟩ := hi i (by omega)
      rw [hsz] at h1
      obtain ⟨-, hlen, hat⟩ := World.cells?_some h1
      obtain ⟨z, hz⟩ := hel n cs' _ hlen h2
      refine ⟨z, cs', hz, fun j u hu => ?_⟩
      have hj : j < d.sz := by rw [← hlen]; exact (List.getElem?_eq_some_iff.1 hu).1
      rw [← add_add, hat j hj, hu]
    obtain ⟨l, hll, hlq⟩ := list_of len hq
    refine ⟨l, hc, hl, hm, hll, fun hp => ?_⟩
    obtain ⟨z, hz⟩ : ∃ z, l[0]? = some z := ⟨_, List.getElem?_eq_getElem (by omega)⟩
    obtain ⟨cs, hK, hcell⟩ := hlq 0 z hz
    obtain ⟨u, hu⟩ : ∃ u, cs[0]? = some u := ⟨_, List.getElem?_eq_getElem (by rw [d.len hK]; omega)⟩
    have h0 := hcell 0 u hu
    rw [Nat.zero_mul, Nat.add_zero] at h0
    have ha : a.add 0 = a := by unfold Addr.add; rw [if_pos rfl]
    rw [ha] at h0
    have hfl := addr_flat h0
    refine ⟨a.block, a.off, congrArg some hfl, trivial, ?_, fun i y hy => ?_⟩
    · rw [hfl] at h0; exact cell_lt h0
    · obtain ⟨cs, hK, hcell⟩ := hlq i y hy
      refine ⟨cs, hK, fun j u hu => ?_⟩
      have := hcell j u hu
      rw [hfl, Addr.add_lit] at this
      rw [← this, Nat.add_assoc]
end
end Go.Proofs.Ytbchokjhbjnfcaa
