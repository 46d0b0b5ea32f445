/- Deeds of chapter 16 in memory; big; do where there are no environments. -/
import Derived.Test.YtekkjieoikgpmaaE24
import Derived.Test.YtekkjieoikgpmaaE25
import Derived.Deep.WholeRow
set_option linter.unusedVariables false
set_option linter.unusedSimpArgs false
namespace Go.Proofs.Ytekkjieoikgpmaa
open Go.RowKit
set_option maxHeartbeats 3200000
set_option maxRecDepth 1000000

/-- A slice of one element that is written out whole. -/
theorem fold_get (l : List Value) : ∀ (k : Nat) (arr : Array Value) (i : Nat), ((l.zipIdx k).foldl (fun cs (p : Value × Nat) => cs.setIfInBounds p.2 p.1) arr)[i]? = if k ≤ i ∧ i < k + l.length ∧ i < arr.size then l[i - k]? else arr[i]? := by
  induction l with
  | nil =>
    intro k arr i
    rw [if_neg (by simp; omega)]
    rfl
  | cons a l ih =>
    intro k arr i
    rw [List.zipIdx_cons, List.foldl_cons, ih]
    simp only [Array.size_setIfInBounds, List.length_cons]
    by_cases h : i = k
    · subst h
      rw [if_neg (by omega)]
      by_cases hi : i < arr.size
      · rw [if_pos (by omega), Array.getElem?_setIfInBounds_self_of_lt hi]
        simp
      · rw [if_neg (by omega)]
        simp [hi]
    · by_cases h2 : k + 1 ≤ i ∧ i < k + 1 + l.length ∧ i < arr.size
      · rw [if_pos h2, if_pos (by omega)]
        obtain ⟨m, hm⟩ : ∃ m, i - k = m + 1 := ⟨i - k - 1, by omega⟩
        rw [hm, show i - (k + 1) = m by omega]
        simp
      · rw [if_neg h2, if_neg (by omega), Array.getElem?_setIfInBounds_ne (by omega)]
theorem fold_all (cells arr : Array Value) (h : arr.size = cells.size) : cells.zipIdx.foldl (fun cs (p : Value × Nat) => cs.setIfInBounds (0 + p.2) p.1) arr = cells := by
  have e : (fun (cs : Array Value) (p : Value × Nat) => cs.setIfInBounds (0 + p.2) p.1) = fun cs p => cs.setIfInBounds p.2 p.1 := by
    funext cs p
    rw [Nat.zero_add]
  rw [e, ← Array.foldl_toList, Array.toList_zipIdx]
  apply Array.ext_getElem?
  intro i
  rw [fold_get]
  by_cases hi : i < cells.size
  · rw [if_pos (by simp; omega), Nat.sub_zero, Array.getElem?_toList]
  · rw [if_neg (by simp; omega), Array.getElem?_eq_none (by omega), Array.getElem?_eq_none (by omega)]
theorem fill_one (n : Nat) (cells arr : Array Value) (hc : cells.size = n) (ha : arr.size = n) : Instr.fill (fun i => some (i * n, n)) arr [(0, Value.agg cells)] = some cells := by
  have h := fold_all cells arr (by omega)
  have hn : (decide (cells.size ≠ n) || decide (0 * n + cells.size > arr.size)) = false := by
    rw [ha, hc]
    simp
  show (if (decide (cells.size ≠ n) || decide (0 * n + cells.size > arr.size)) = true then none else some (cells.zipIdx.foldl (fun cs (p : Value × Nat) => cs.setIfInBounds (0 * n + p.2) p.1) arr)) = some cells
  rw [hn, Nat.zero_mul]
  simp only [Bool.false_eq_true, if_false]
  rw [h]
theorem run_build_one {P : Program} (w : World) (t e : TypeId) (z : Value) (n : Nat) (cells : Array Value) (ht : P.underlying t = some (.slice e)) (hi : (P.info? e).map (fun i => (i.zero, i.size)) = some (some z, n)) (hz : z.cells.size = n) (h0 : 0 < n) (hn : n ≤ 16777216) (hc : cells.size = n) :
    (Instr.buildSlice t 1 #[(0, .agg cells)]).run P w = .ok (.slice (some ⟨w.heap.size, 0, none⟩) 1 1) (w.alloc (.cells cells e)) := by
  obtain ⟨hzv, hsz⟩ := zero_of_info hi
  obtain ⟨i0, hi0, hii⟩ := Option.map_eq_some_iff.1 hsz
  have hce : P.cellsOf e = n := by simp [Program.cellsOf, hi0, hii]
  have hfill := fill_one n cells ((Array.range (1 * n)).map fun x => z.cells[x % z.cells.size]!) hc (by simp)
  simp only [Instr.buildSlice, Sem.run_bind, run_underlying ht, Result.andThen_ok, run_sizeOf w hi0, hce]
  rw [if_neg (by omega), if_neg (by omega)]
  simp only [Sem.run_bind, hzv, Result.andThen_ok, Sem.run_pure, hfill]
  rfl
end Go.Proofs.Ytekkjieoikgpmaa
