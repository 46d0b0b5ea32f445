/- Words for memory: one field of a row's element is stored; rows whose elements lie partly here, partly there. Plain lemmas, no program. -/
import Derived.Test.YtekkjieoikgpmaaBase3
set_option linter.unusedVariables false
set_option linter.unusedSimpArgs false
namespace Go.Proofs.Ytekkjieoikgpmaa
open Go.RowKit
namespace Kind
section
variable {α : Type} {d : Kind α} {e : TypeId} {w w' : World} {ok ok' : Nat → Prop} {g cap : Nat} {m : List α} {x : α} {cs : List Value}
/-- The cells of one element of a row, as the row's block has them. -/
theorem RowAt.at_cells {i : Nat} (h : d.RowAt e w ok g cap m) (hi : i < m.length) : ∃ cur cs, w.heap[g]? = some (.cells cur e (0, 0)) ∧ i * d.sz + d.sz ≤ cur.size ∧ d.K w ok m[i] cs ∧ ∀ j, j < d.sz → cur[i * d.sz + j]? = cs[j]? := by
  obtain ⟨cs, hk, hc⟩ := h.cells hi
  obtain ⟨cur, hb, hs, hl, -, -⟩ := h
  have h1 : (i + 1) * d.sz ≤ cap * d.sz := Nat.mul_le_mul_right _ (by omega)
  rw [Nat.add_mul, Nat.one_mul] at h1
  refine ⟨cur, cs, hb, by omega, hk, fun j hj => ?_⟩
  have hl := d.len hk
  have hj' : j < cs.length := by omega
  have h2 := hc j cs[j] (List.getElem?_eq_getElem hj')
  rw [blk_cell hb] at h2
  rw [h2, List.getElem?_eq_getElem hj']
/-- One field of one element is stored. -/
theorem RowAt.field {i j : Nat} {v : Value} {y : α} (h : d.RowAt e w ok g cap m) (hi : i < m.length) (hj : j < d.sz) (hy : ∀ cs, d.K w ok m[i] cs → d.K w ok y (cs.set j v)) (hg : ∀ k, ok k → k ≠ g) :
    d.RowAt e (w.setCell ⟨g, i * d.sz + j, none⟩ v) ok g cap (m.set i y) := by
  obtain ⟨cur, cs, hb, hsz, hk, hc⟩ := h.at_cells hi
  have hl := d.len hk
  have h2 := h.set hi (hy cs hk) hg
  have hb2 := setCells_blk g e (0, 0) (cs.set j v) (i * d.sz) w cur hb (by rw [List.length_set]; omega)
  refine h2.step ?_ (fun k hk hl => ?_)
  · rw [hb2, blk_set hb (i * d.sz + j) v]
    congr 2
    apply Array.ext_getElem?
    intro k
    have hlt : (cur.toList.take (i * d.sz)).length = i * d.sz := by rw [List.length_take, Array.length_toList]; omega
    have hta : ∀ L : List Value, L.toArray[k]? = L[k]? := fun L => by simp
    rw [hta (cur.toList.take (i * d.sz) ++ cs.set j v ++ cur.toList.drop (i * d.sz + (cs.set j v).length)), Array.getElem?_setIfInBounds, List.append_assoc]
    rcases Nat.lt_or_ge k (i * d.sz) with h3 | h3
    · rw [if_neg (by omega), List.getElem?_append_left (by omega), List.getElem?_take, if_pos h3]
      simp
    · rw [List.getElem?_append_right (by omega), hlt]
      rcases Nat.lt_or_ge k (i * d.sz + d.sz) with h4 | h4
      · rw [List.getElem?_append_left (by rw [List.length_set]; omega), List.getElem?_set]
        by_cases h5 : i * d.sz + j = k
        · have h6 : j = k - i * d.sz := by omega
          rw [if_pos h5, if_pos h6, if_pos (by omega), if_pos (by omega)]
        · rw [if_neg h5, if_neg (by omega)]
          have h6 := hc (k - i * d.sz) (by omega)
          rw [← h6]
          congr 1
          omega
      · rw [if_neg (by omega), List.getElem?_append_right (by rw [List.length_set]; omega), List.getElem?_drop, List.length_set]
        rw [← Array.getElem?_toList]
        congr 1
        omega
  · rw [setCells_other g _ _ w k (hg k hk)]
    exact Below.heap_setCell w _ _ k (hg k hk)
/-- One field of one element has been stored, some time ago: what else was done since has left the row's elements alone. -/
theorem RowAt.refield {i j : Nat} {v : Value} {y : α} (h : d.RowAt e w ok g cap m) (hi : i < m.length) (hj : j < d.sz) (hw : ∀ k, ok k → k < w.heap.size → w'.heap[k]? = w.heap[k]?) (hb' : w'.heap[g]? = (w.setCell ⟨g, i * d.sz + j, none⟩ v).heap[g]?)
    (hok : ∀ k, ok k → ok' k) (hg : ∀ k, ok' k → k ≠ g) (hy : ∀ cs, d.K w' ok' m[i] cs → d.K w' ok' y (cs.set j v)) : d.RowAt e w' ok' g cap (m.set i y) := by
  obtain ⟨cur, cs, hb, hsz, -, -⟩ := h.at_cells hi
  have hp : i * d.sz + j < cur.size := by omega
  rw [blk_set hb (i * d.sz + j) v] at hb'
  have hu := blk_set hb' (i * d.sz + j) cur[i * d.sz + j]
  have hcur : ((cur.setIfInBounds (i * d.sz + j) v).setIfInBounds (i * d.sz + j) cur[i * d.sz + j]) = cur := by
    apply Array.ext_getElem?
    intro k
    rw [Array.getElem?_setIfInBounds, Array.getElem?_setIfInBounds]
    by_cases hk : i * d.sz + j = k
    · subst hk
      simp [hp]
    · simp [hk]
  rw [hcur] at hu
  have hother : ∀ k, ok' k → (w'.setCell ⟨g, i * d.sz + j, none⟩ cur[i * d.sz + j]).heap[k]? = w'.heap[k]? := fun k hk => Below.heap_setCell w' _ _ k (hg k hk)
  have hRu : d.RowAt e (w'.setCell ⟨g, i * d.sz + j, none⟩ cur[i * d.sz + j]) ok' g cap m := by
    obtain ⟨cur2, hb2, hs, hl, hc, hr⟩ := h
    rw [hb] at hb2
    injection hb2 with hb2
    injection hb2 with hb2
    subst hb2
    exact ⟨_, hu, hs, hl, hc, hr.imp fun x c hk => d.weaken hok (Kind.step hk fun k hk hlt => (hother k (hok k hk)).trans (hw k hk hlt))⟩
  have hf := hRu.field (v := v) (y := y) hi hj (fun cs hcs => d.move (fun k hk => hother k hk) (hy cs (d.move (fun k hk => (hother k hk).symm) hcs))) hg
  refine hf.step ?_ (fun k hk _ => ?_)
  · rw [hb', blk_set hu (i * d.sz + j) v]
  · exact ((Below.heap_setCell _ _ _ k (hg k hk)).trans (hother k hk)).symm
end
/-- Elements that lie in blocks of F true, or in blocks of F false: each says which. -/
def mix {α : Type} (d : Kind α) (F : Bool → Nat → Prop) : Kind (α × Bool) where
  sz := d.sz
  K := fun w ok x cs => d.K w (fun k => ok k ∧ F x.2 k) x.1 cs
  len := fun h => d.len h
  one := fun h => d.one h
  weaken := fun hok h => d.weaken (fun k hk => ⟨hok k hk.1, hk.2⟩) h
  bound := fun h => d.weaken (fun k hk => ⟨⟨hk.1.1, hk.2⟩, hk.1.2⟩) (d.bound h)
  move := fun hm h => d.move (fun k hk => hm k hk.1) h
end Kind
end Go.Proofs.Ytekkjieoikgpmaa
