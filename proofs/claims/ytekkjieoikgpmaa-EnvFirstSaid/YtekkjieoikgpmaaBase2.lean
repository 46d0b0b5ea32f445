/- A row that is written in place: what it reads as behind a store of one element, behind clear, and what a cut of it owns. -/
import Derived.Test.YtekkjieoikgpmaaBase
set_option linter.unusedVariables false
set_option linter.unusedSimpArgs false
namespace Go.Proofs.Ytekkjieoikgpmaa
open Go.RowKit
theorem setCells_blk (g : Nat) (e : TypeId) (fr : Nat × Nat) : ∀ (vs : List Value) (o : Nat) (w : World) (cur : Array Value), w.heap[g]? = some (.cells cur e fr) → o + vs.length ≤ cur.size →
    (w.setCells g o vs).heap[g]? = some (.cells (cur.toList.take o ++ vs ++ cur.toList.drop (o + vs.length)).toArray e fr)
  | [], o, w, cur, hg, hl => by
    simp only [World.setCells, List.append_nil, List.length_nil, Nat.add_zero, List.take_append_drop, Array.toArray_toList]
    exact hg
  | v :: r, o, w, cur, hg, hl => by
    simp only [World.setCells]
    simp only [List.length_cons] at hl
    rw [setCells_blk g e fr r (o + 1) _ _ (blk_set hg o v) (by simp; omega)]
    congr 2
    apply Array.ext'
    simp only [Array.toList_setIfInBounds]
    have ho : o < cur.toList.length := by simp; omega
    rw [List.take_set, List.take_succ_eq_append_getElem ho]
    have hlo : (cur.toList.take o).length = o := by rw [List.length_take]; omega
    have e1 : (cur.toList.take o ++ [cur.toList[o]]).set o v = cur.toList.take o ++ [v] := by
      rw [List.set_append_right _ _ (by omega), hlo, Nat.sub_self]
      rfl
    rw [e1, List.drop_set_of_lt (by omega)]
    simp [Nat.add_assoc, Nat.add_comm 1]
theorem setCells_other (g : Nat) : ∀ (vs : List Value) (o : Nat) (w : World) (k : Nat), k ≠ g → (w.setCells g o vs).heap[k]? = w.heap[k]?
  | [], _, _, _, _ => rfl
  | v :: r, o, w, k, hk => by
    simp only [World.setCells]
    rw [setCells_other g r (o + 1) _ k hk]
    exact Below.heap_setCell w ⟨g, o, none⟩ v k hk
theorem setCells_size (g : Nat) : ∀ (vs : List Value) (o : Nat) (w : World), (w.setCells g o vs).heap.size = w.heap.size
  | [], _, _ => rfl
  | v :: r, o, w => by
    simp only [World.setCells]
    rw [setCells_size g r (o + 1)]
    simp [World.setCell]
theorem setCells_rest (g : Nat) : ∀ (vs : List Value) (o : Nat) (w : World), (w.setCells g o vs).os = w.os ∧ (w.setCells g o vs).tape = w.tape ∧ (w.setCells g o vs).output = w.output
  | [], _, _ => ⟨rfl, rfl, rfl⟩
  | v :: r, o, w => by
    simp only [World.setCells]
    exact setCells_rest g r (o + 1) _
theorem setCells_grown (g : Nat) (vs : List Value) (o : Nat) (w : World) : w.grownBy (w.setCells g o vs) (some g) :=
  ⟨(setCells_rest g vs o w).1, (setCells_rest g vs o w).2.1, (setCells_rest g vs o w).2.2, by rw [setCells_size]; omega, fun k _ hk => setCells_other g vs o w k (fun e => hk (by rw [e]))⟩

namespace Kind
/-- Block g is a row of 'cap' places whose first elements read as m. -/
def RowAt {α : Type} (d : Kind α) (e : TypeId) (w : World) (ok : Nat → Prop) (g cap : Nat) (m : List α) : Prop :=
  ∃ cur, w.heap[g]? = some (.cells cur e (0, 0)) ∧ cur.size = cap * d.sz ∧ m.length ≤ cap ∧ cap ≤ maxLen ∧ d.Reps w ok m (cur.toList.take (m.length * d.sz))
section
variable {α : Type} {d : Kind α} {e : TypeId} {w w' : World} {ok ok' : Nat → Prop} {g cap : Nat} {m : List α} {x : α} {cs : List Value}
theorem Own.rowAt {base n c : Nat} {A : Option Addr} (h : d.Own e w ok base (.slice A n c) m) (hn : 0 < m.length) : ∃ g, A = some ⟨g, 0, none⟩ ∧ n = m.length ∧ base ≤ g ∧ d.RowAt e w ok g c m := by
  obtain ⟨xs, ho, hr⟩ := h
  rcases ho.2 with ⟨_, h0⟩ | ⟨g, cap, cur, hv, hg, hh, hn, hm, hs, ht⟩
  · omega
  · injection hv with h1 h2 h3
    subst h1; subst h2; subst h3
    exact ⟨g, rfl, rfl, hg, cur, hh, hs, hn, hm, by rw [ht]; exact hr⟩
theorem RowAt.own {base : Nat} (h : d.RowAt e w ok g cap m) (hb : base ≤ g) : d.Own e w ok base (.slice (some ⟨g, 0, none⟩) m.length cap) m := by
  obtain ⟨cur, hh, hs, hl, hm, hr⟩ := h
  exact ⟨_, ⟨hr.1, .inr ⟨g, cap, cur, rfl, hb, hh, hl, hm, hs, rfl⟩⟩, hr⟩
theorem RowAt.lt (h : d.RowAt e w ok g cap m) : g < w.heap.size := by
  obtain ⟨cur, hh, _⟩ := h
  exact blk_lt hh
theorem RowAt.take {k : Nat} (h : d.RowAt e w ok g cap m) (hk : k ≤ m.length) : d.RowAt e w ok g cap (m.take k) := by
  obtain ⟨cur, hh, hs, hl, hm, hr⟩ := h
  refine ⟨cur, hh, hs, by rw [List.length_take]; omega, hm, ?_⟩
  have hlen : (m.take k).length = k := by rw [List.length_take]; omega
  have hle : k * d.sz ≤ m.length * d.sz := Nat.mul_le_mul_right _ hk
  have hc : m.length * d.sz ≤ cur.toList.length := by rw [show cur.toList.length = cur.size from Array.length_toList, hs]; exact Nat.mul_le_mul_right _ hl
  rw [hlen]
  refine ⟨by rw [List.length_take, hlen]; omega, fun i y hy => ?_⟩
  rw [List.getElem?_take] at hy
  split at hy
  · rename_i hi
    have h1 := hr.2 i y hy
    have hi' : i * d.sz + d.sz ≤ k * d.sz := by rw [← Nat.succ_mul]; exact Nat.mul_le_mul_right _ hi
    have e1 : ∀ K, i * d.sz + d.sz ≤ K → ((cur.toList.take K).drop (i * d.sz)).take d.sz = (cur.toList.drop (i * d.sz)).take d.sz := by
      intro K hK
      rw [List.drop_take, List.take_take, Nat.min_eq_left (by omega)]
    rw [e1 _ hi']
    rw [e1 _ (by omega)] at h1
    exact h1
  · cases hy
theorem RowAt.cells {i : Nat} (h : d.RowAt e w ok g cap m) (hi : i < m.length) : ∃ cs, d.K w ok m[i] cs ∧ ∀ j u, cs[j]? = some u → w.cell? ⟨g, i * d.sz + j, none⟩ = some u := by
  obtain ⟨cur, hh, hs, hl, hm, hr⟩ := h
  have hk := hr.2 i _ (List.getElem?_eq_getElem hi)
  refine ⟨_, hk, fun j u hu => ?_⟩
  rw [blk_cell hh]
  rw [List.getElem?_take] at hu
  split at hu
  · rw [List.getElem?_drop, List.getElem?_take] at hu
    split at hu
    · rw [← hu]; simp
    · cases hu
  · cases hu
theorem RowAt.cells' {i : Nat} (h : d.RowAt e w ok g cap m) (hx : m[i]? = some x) : ∃ cs, d.K w ok x cs ∧ ∀ j u, cs[j]? = some u → w.cell? ⟨g, i * d.sz + j, none⟩ = some u := by
  obtain ⟨hi, rfl⟩ := List.getElem?_eq_some_iff.1 hx
  exact h.cells hi
theorem RowAt.frozen (h : d.RowAt e w ok g cap m) (j : Nat) : w.frozen? ⟨g, j, none⟩ = false := by
  obtain ⟨cur, hh, _⟩ := h
  exact blk_frozen hh
theorem RowAt.step (h : d.RowAt e w ok g cap m) (hg : w'.heap[g]? = w.heap[g]?) (hm : ∀ k, ok k → k < w.heap.size → w'.heap[k]? = w.heap[k]?) : d.RowAt e w' ok g cap m := by
  obtain ⟨cur, hh, hs, hl, hc, hr⟩ := h
  exact ⟨cur, hg.trans hh, hs, hl, hc, hr.imp fun x c hk => d.step hk hm⟩
theorem RowAt.below (h : d.RowAt e w ok g cap m) (hb : Below w.heap.size w w') : d.RowAt e w' ok g cap m := h.step (hb.block g h.lt) (fun k _ hk => hb.block k hk)
/-- One element is stored. -/
theorem RowAt.set {i : Nat} (h : d.RowAt e w ok g cap m) (hi : i < m.length) (hx : d.K w ok x cs) (hg : ∀ k, ok k → k ≠ g) : d.RowAt e (w.setCells g (i * d.sz) cs) ok g cap (m.set i x) := by
  obtain ⟨cur, hh, hs, hl, hm, hr⟩ := h
  have hcs := d.len hx
  have hi' : i * d.sz + d.sz ≤ m.length * d.sz := by rw [← Nat.succ_mul]; exact Nat.mul_le_mul_right _ hi
  have hc : m.length * d.sz ≤ cur.size := by rw [hs]; exact Nat.mul_le_mul_right _ hl
  have hb := setCells_blk g e (0, 0) cs (i * d.sz) w cur hh (by omega)
  have hmv : ∀ k, ok k → k < w.heap.size → (w.setCells g (i * d.sz) cs).heap[k]? = w.heap[k]? := fun k hk _ => setCells_other g cs _ w k (hg k hk)
  refine ⟨_, hb, ?_, by simpa using hl, hm, ?_⟩
  · simp only [List.size_toArray, List.length_append, List.length_take, List.length_drop, Array.length_toList]
    omega
  · rw [List.length_set]
    have hlen : (cur.toList.take (i * d.sz) ++ cs ++ cur.toList.drop (i * d.sz + cs.length)).length = cur.size := by
      simp only [List.length_append, List.length_take, List.length_drop, Array.length_toList]
      omega
    refine ⟨by rw [List.length_set, List.length_take]; simp only [hlen]; omega, fun j y hy => ?_⟩
    have hj : j < m.length := by
      have := (List.getElem?_eq_some_iff.1 hy).1
      simpa using this
    have hj' : j * d.sz + d.sz ≤ m.length * d.sz := by rw [← Nat.succ_mul]; exact Nat.mul_le_mul_right _ hj
    rw [List.drop_take, List.take_take, Nat.min_eq_left (by omega)]
    by_cases hij : j = i
    · subst hij
      have hxy : x = y := by
        rw [List.getElem?_set_self hi] at hy
        injection hy
      subst hxy
      have e1 : (cur.toList.take (j * d.sz) ++ cs ++ cur.toList.drop (j * d.sz + cs.length)).drop (j * d.sz) = cs ++ cur.toList.drop (j * d.sz + cs.length) := by
        have hlt : (cur.toList.take (j * d.sz)).length = j * d.sz := by rw [List.length_take, Array.length_toList]; omega
        rw [List.append_assoc]
        conv => lhs; arg 1; rw [← hlt]
        rw [List.drop_left]
      have e3 : (cs ++ cur.toList.drop (j * d.sz + cs.length)).take d.sz = cs := by
        conv => lhs; arg 1; rw [← hcs]
        exact List.take_left
      rw [e1, e3]
      exact d.step hx hmv
    · rw [List.getElem?_set_ne (fun e => hij e.symm)] at hy
      have h1 := hr.2 j y hy
      rw [List.drop_take, List.take_take, Nat.min_eq_left (by omega)] at h1
      have e2 : ((cur.toList.take (i * d.sz) ++ cs ++ cur.toList.drop (i * d.sz + cs.length)).drop (j * d.sz)).take d.sz = (cur.toList.drop (j * d.sz)).take d.sz := by
        apply List.ext_getElem?
        intro q
        rw [List.getElem?_take, List.getElem?_take]
        split
        · rename_i hq
          rw [List.getElem?_drop, List.getElem?_drop]
          rcases Nat.lt_or_ge j i with h2 | h2
          · have : j * d.sz + d.sz ≤ i * d.sz := by rw [← Nat.succ_mul]; exact Nat.mul_le_mul_right _ h2
            rw [List.append_assoc, List.getElem?_append_left (by rw [List.length_take, Array.length_toList]; omega), List.getElem?_take, if_pos (by omega)]
          · have : i * d.sz + d.sz ≤ j * d.sz := by rw [← Nat.succ_mul]; exact Nat.mul_le_mul_right _ (by omega)
            have hla : (cur.toList.take (i * d.sz) ++ cs).length = i * d.sz + d.sz := by
              rw [List.length_append, List.length_take, show cur.toList.length = cur.size from Array.length_toList]; omega
            rw [List.getElem?_append_right (by omega), List.getElem?_drop]
            congr 1
            omega
        · rfl
      rw [e2]
      exact d.step h1 hmv
end
end Kind

/-- clear(s): s lies in a row. -/
theorem run_clear_row {P : Program} (w : World) (t ty e : TypeId) (z : Value) (ht : P.underlying t = some (.slice e)) (hz : (zeroValue e).run P w = .ok z w) (g off m c : Nat) (cur : Array Value)
    (hg : w.heap[g]? = some (.cells cur e (0, 0))) (hm : 0 < m) (hl : off + m * z.cells.size ≤ cur.size) (h1 : ∀ u ∈ z.cells.toList, u.oneCell' = true) :
    ∃ w', (Builtin.clear_ #[t] ty #[.slice (some ⟨g, off, none⟩) m c]).run P w = .ok (.tuple #[]) w' ∧ w.grownBy w' (some g) ∧ ∃ cur' : Array Value, w'.heap[g]? = some (.cells cur' e (0, 0)) ∧ cur'.size = cur.size ∧ cur'.toList.take off = cur.toList.take off := by
  have hzl : (Builtin.zeroCells z.cells m).toList.length = m * z.cells.size := by simp [Builtin.zeroCells]
  have hst := run_storeCells_at (P := P) g off e (Builtin.zeroCells z.cells m).toList 0 cur w hg (by omega) (by
    intro u hu
    simp only [Builtin.zeroCells, Array.toList_map, List.mem_map] at hu
    obtain ⟨i, hi, rfl⟩ := hu
    refine h1 _ ?_
    rcases Nat.eq_zero_or_pos z.cells.size with h0 | h0
    · simp [h0] at hi
    · have := Nat.mod_lt i h0
      rw [getElem!_pos z.cells _ this]
      simp)
  simp only [Nat.add_zero] at hst
  refine ⟨w.setRow g (cur.toList.take off ++ (Builtin.zeroCells z.cells m).toList ++ cur.toList.drop (off + (Builtin.zeroCells z.cells m).toList.length)).toArray, ?_, ?_, _, setRow_heap w g cur _ e _ hg, ?_, ?_⟩
  · obtain ⟨m, rfl⟩ : ∃ k, m = k + 1 := ⟨m - 1, by omega⟩
    simp [Builtin.clear_, run_underlying ht, hz, hst]
  · exact ⟨rfl, rfl, rfl, by simp, fun k _ hk => setRow_other w g k _ (fun e => hk (by rw [e]))⟩
  · rw [show (List.toArray _).size = _ from List.size_toArray]
    simp only [List.length_append, List.length_take, List.length_drop, hzl]
    have : cur.toList.length = cur.size := Array.length_toList
    omega
  · have : cur.toList.length = cur.size := Array.length_toList
    show List.take off (cur.toList.take off ++ (Builtin.zeroCells z.cells m).toList ++ cur.toList.drop (off + (Builtin.zeroCells z.cells m).toList.length)) = _
    rw [List.append_assoc, List.take_append_of_le_length (by rw [List.length_take]; omega), List.take_take, Nat.min_self]
end Go.Proofs.Ytekkjieoikgpmaa
