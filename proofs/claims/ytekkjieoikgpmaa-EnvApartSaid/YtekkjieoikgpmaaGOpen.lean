/- Arguments opened: a slice reads as a list of a kind. -/
import Derived.Test.YtekkjieoikgpmaaGLaw
import Derived.Deep.Slices
import Derived.Deep.Fields
set_option linter.unusedVariables false
namespace Go.Proofs.Ytekkjieoikgpmaa
open Go.ChangeShapes Go.WideShapes Go.ChangeAt Go.RowKit Go.Deep
section
variable {H : Type} {enc : TypeId × Value → H} {P : Program} {w : World} {spare : Nat → Bool} {held : Bool}
theorem addr_flat {w : World} {a : Addr} {v : Value} (h : w.cell? a = some v) : a = ⟨a.block, a.off, none⟩ := by
  obtain ⟨b, o, s⟩ := a
  cases s with
  | none => rfl
  | some s => unfold World.cell? at h; split at h <;> simp at h
theorem list_of {α : Type} {Q : Nat → α → Prop} : ∀ (n : Nat), (∀ i, i < n → ∃ x, Q i x) → ∃ l : List α, l.length = n ∧ ∀ i x, l[i]? = some x → Q i x
  | 0, _ => ⟨[], rfl, fun i x h => by simp at h⟩
  | n + 1, h => by
    obtain ⟨l, hl, hq⟩ := list_of n fun i hi => h i (by omega)
    obtain ⟨x, hx⟩ := h n (by omega)
    refine ⟨l ++ [x], by simp [hl], fun i y hy => ?_⟩
    rcases Nat.lt_or_ge i l.length with hi | hi
    · rw [List.getElem?_append_left hi] at hy; exact hq i y hy
    · rw [List.getElem?_append_right hi] at hy
      have h0 : i - l.length = 0 := by
        rcases Nat.eq_zero_or_pos (i - l.length) with h | h
        · exact h
        · rw [List.getElem?_eq_none (by simp; omega)] at hy; cases hy
      rw [h0] at hy
      have e1 : i = n := by omega
      have e2 : x = y := by simpa using hy
      rw [e1, ← e2]; exact hx
theorem okWide_slice_eq {t e : TypeId} {r : Reach} {b0 : Nat} {v : Value} {A : Option Addr} {n c : Nat} (ht : P.underlying t = some (.slice e)) (hval : Value.okWide P w r b0 t v) (hc : v.cells.toList = [.slice A n c]) : v = .slice A n c := by
  obtain ⟨A', n', c', rfl⟩ := okWide_slice ht hval
  simpa [Value.cells] using hc
theorem open_kind {α : Type} (d : Kind α) {t e : TypeId} {r : Reach} {b0 : Nat} {v : Value} {x : DataW H} {ps : List MemPlace} (ht : P.underlying t = some (.slice e)) (hsz : P.cellsOf e = d.sz) (hs0 : 0 < d.sz)
    (hel : ∀ (n : Nat) (cs : List Value) (y : DataW H × List MemPlace), cs.length = d.sz → DataW.trod enc P w 0 spare held n e cs = some y → ∃ z : α, d.K w (fun _ => True) z cs)
    (hval : Value.okWide P w r b0 t v) (h : DataW.Trod enc P w 0 spare held t v x ps) : ∃ A n c l, v = .slice A n c ∧ n ≤ c ∧ c ≤ maxLen ∧ d.Rd w (fun _ => True) A n l := by
  obtain ⟨fuel, hf⟩ := h
  rcases open_slice ht hf with ⟨hc, -⟩ | ⟨a, len, cap, m, n, D, Pl, hc, hb, hl, hm, hmm, -, hi⟩
  · exact ⟨none, 0, 0, [], okWide_slice_eq ht hval hc, Nat.le_refl _, Nat.zero_le _, Kind.Rd.nil _ _ _ _⟩
  · refine ⟨some a, len, cap, ?_⟩
    have hlm : len ≤ m := by rw [hmm]; split <;> omega
    have hq : ∀ i, i < len → ∃ z : α, ∃ cs, d.K w (fun _ => True) z cs ∧ ∀ j u, cs[j]? = some u → w.cell? (a.add (i * d.sz + j)) = some u := by
      intro i hil
      obtain ⟨cs', h1, h2⟩ := hi i (by omega)
      rw [hsz] at h1
      obtain ⟨-, hlen, hat⟩ := World.cells?_some h1
      obtain ⟨z, hz⟩ := hel n cs' _ hlen h2
      refine ⟨z, cs', hz, fun j u hu => ?_⟩
      have hj : j < d.sz := by rw [← hlen]; exact (List.getElem?_eq_some_iff.1 hu).1
      rw [← add_add, hat j hj, hu]
    obtain ⟨l, hll, hlq⟩ := list_of len hq
    refine ⟨l, okWide_slice_eq ht hval hc, hl, hm, hll, fun hp => ?_⟩
    obtain ⟨z, hz⟩ : ∃ z, l[0]? = some z := ⟨_, List.getElem?_eq_getElem (by omega)⟩
    obtain ⟨cs, hK, hcell⟩ := hlq 0 z hz
    obtain ⟨u, hu⟩ : ∃ u, cs[0]? = some u := ⟨_, List.getElem?_eq_getElem (by rw [d.len hK]; omega)⟩
    have h0 := hcell 0 u hu
    rw [Nat.zero_mul, Nat.add_zero] at h0
    have ha : a.add 0 = a := by unfold Addr.add; rw [if_pos rfl]
    rw [ha] at h0
    have hfl := addr_flat h0
    refine ⟨a.block, a.off, congrArg some hfl, trivial, ?_, fun i y hy => ?_⟩
    · rw [hfl] at h0; exact cell_lt h0
    · obtain ⟨cs, hK, hcell⟩ := hlq i y hy
      refine ⟨cs, hK, fun j u hu => ?_⟩
      have := hcell j u hu
      rw [hfl, Addr.add_lit] at this
      rw [← this, Nat.add_assoc]
end
end Go.Proofs.Ytekkjieoikgpmaa
