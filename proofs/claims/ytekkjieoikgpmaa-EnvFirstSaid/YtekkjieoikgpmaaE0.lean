/- Marked rows: which elements have been made anew (general). -/
import Derived.Test.YtekkjieoikgpmaaBase4
import Derived.BigRegion
import Derived.RegionTactic
import Derived.Deep.RegionLaw
set_option linter.unusedVariables false
set_option linter.unusedSimpArgs false
namespace Go.Proofs.Ytekkjieoikgpmaa
open Go.RowKit
set_option maxHeartbeats 3200000
set_option maxRecDepth 1000000

/-- The first i are marked. -/
def marked {α : Type} (L : List α) (i : Nat) : List (α × Bool) := (L.take i).map (fun x => (x, true)) ++ (L.drop i).map (fun x => (x, false))
theorem marked_length {α : Type} (L : List α) (i : Nat) : (marked L i).length = L.length := by unfold marked; simp; omega
theorem marked_at {α : Type} {L : List α} {i : Nat} {x : α} (h : L[i]? = some x) : (marked L i)[i]? = some (x, false) := by
  have hi := (List.getElem?_eq_some_iff.1 h).1
  unfold marked
  rw [List.getElem?_append_right (by simp; omega)]
  have e : i - ((L.take i).map (fun x => (x, true))).length = 0 := by simp; omega
  rw [e, List.getElem?_map, List.getElem?_drop, Nat.add_zero, h]
  rfl
theorem marked_set {α : Type} {L : List α} {i : Nat} {x : α} (h : L[i]? = some x) : (marked L i).set i (x, true) = marked L (i + 1) := by
  obtain ⟨hi, rfl⟩ := List.getElem?_eq_some_iff.1 h
  unfold marked
  have e : ((L.take i).map (fun x => (x, true))).length = i := by simp; omega
  rw [List.set_append_right _ _ (by omega), e, Nat.sub_self, List.drop_eq_getElem_cons hi, List.take_succ_eq_append_getElem hi, List.map_cons, List.set_cons_zero, List.map_append, List.append_assoc]
  rfl
theorem marked_zero {α : Type} (L : List α) : marked L 0 = L.map fun x => (x, false) := by unfold marked; simp
theorem marked_all {α : Type} (L : List α) : marked L L.length = L.map fun x => (x, true) := by unfold marked; simp
/-- Blocks that are new since size B, or older. -/
def since (B : Nat) (b : Bool) (k : Nat) : Prop := if b = true then B ≤ k else k < B
theorem mix_map {α : Type} {d : Kind α} {F : Bool → Nat → Prop} {e : TypeId} {w : World} {ok ok' : Nat → Prop} {g cap : Nat} {L : List α} (b : Bool) (h : d.RowAt e w ok g cap L) (hok : ∀ k, ok k → ok' k ∧ F b k) : (Kind.mix d F).RowAt e w ok' g cap (L.map fun x => (x, b)) := by
  obtain ⟨cur, h1, h2, h3, h4, h5, h6⟩ := h
  refine ⟨cur, h1, h2, by simpa using h3, h4, by rw [List.length_map]; exact h5, fun i x hx => ?_⟩
  rw [List.getElem?_map] at hx
  cases hy : L[i]? with
  | none => rw [hy] at hx; cases hx
  | some y =>
    rw [hy] at hx
    injection hx with hx
    subst hx
    have := h6 i y hy
    rw [List.length_map]
    exact d.weaken hok this
theorem map_mix {α : Type} {d : Kind α} {F : Bool → Nat → Prop} {e : TypeId} {w : World} {ok : Nat → Prop} {g cap : Nat} {L : List α} (b : Bool) (h : (Kind.mix d F).RowAt e w ok g cap (L.map fun x => (x, b))) : d.RowAt e w (fun k => ok k ∧ F b k) g cap L := by
  obtain ⟨cur, h1, h2, h3, h4, h5, h6⟩ := h
  rw [List.length_map] at h3 h5
  refine ⟨cur, h1, h2, h3, h4, h5, fun i x hx => ?_⟩
  have := h6 i (x, b) (by rw [List.getElem?_map, hx]; rfl)
  rw [List.length_map] at this
  exact this
theorem row_bound {α : Type} {d : Kind α} {e : TypeId} {w : World} {ok : Nat → Prop} {g cap : Nat} {L : List α} (h : d.RowAt e w ok g cap L) : d.RowAt e w (fun k => ok k ∧ k < w.heap.size) g cap L := by
  obtain ⟨cur, h1, h2, h3, h4, h5, h6⟩ := h
  exact ⟨cur, h1, h2, h3, h4, h5, fun i x hx => d.bound (h6 i x hx)⟩
theorem cell_stays {w w' : World} {b o : Nat} {v : Value} (hb : Below w.heap.size w w') (h : w.cell? ⟨b, o, none⟩ = some v) : w'.cell? ⟨b, o, none⟩ = some v := (cell_same (hb.block b (cell_lt h)) o).trans h
theorem cell_put {w : World} {b o : Nat} {v : Value} (h : w.cell? ⟨b, o, none⟩ = some v) (u : Value) : (w.setCell ⟨b, o, none⟩ u).cell? ⟨b, o, none⟩ = some u := World.cell?_setCell_same' w _ u (by rw [h]; rfl)
theorem own_int {e : TypeId} {w : World} {ok ok' : Nat → Prop} {base : Nat} {v : Value} {l : List Int} (h : Kind.int.Own e w ok base v l) : Kind.int.Own e w ok' base v l := by
  obtain ⟨xs, ho, hr⟩ := h
  exact ⟨xs, ho, hr.imp fun _ _ h => h⟩
end Go.Proofs.Ytekkjieoikgpmaa
