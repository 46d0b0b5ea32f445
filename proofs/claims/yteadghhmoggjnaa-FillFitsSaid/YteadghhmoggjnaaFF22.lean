import Derived.KernelRfl
import Derived.Test.YteadghhmoggjnaaFF2
import Derived.Test.YteadghhmoggjnaaFF9
import Derived.Test.YteadghhmoggjnaaFF3
import Derived.Test.YteadghhmoggjnaaFF13
import Derived.Test.YteadghhmoggjnaaFF10
import Derived.Test.YteadghhmoggjnaaFF18
import Derived.Test.YteadghhmoggjnaaFF14
import Derived.Test.YteadghhmoggjnaaFF19
import Derived.Test.YteadghhmoggjnaaFF12
import Derived.Test.YteadghhmoggjnaaFF16
import Derived.Test.YteadghhmoggjnaaFF17
section
section
namespace Go.Proofs.Yteadghhmoggjnaa.Q
open Go.RowKit Go.Proofs.YteadghhmoggjnaaW.PrintWords Go.Proofs.YteadghhmoggjnaaW.PrintLast Go.Proofs.YteadghhmoggjnaaW.PrintMore
attribute [local go_sem] max2_int max_two
set_option linter.unusedVariables false
set_option linter.unusedSimpArgs false
/-! ### frisketref08_SameBox: function 36 -/
mutual
def frisketref08_SameBox.j0 : Nat → Bool → Int → Int → Int → Int → ByteArray → ByteArray → List Int → Int → Int → Int → Int → ByteArray → ByteArray → List Int → Option (Bool)
 | 0, _, _, _, _, _, _, _, _, _, _, _, _, _, _, _ => none
 | k + 1, x54, x138000, x138001, x138002, x138003, x138004, x138005, x138006, x139000, x139001, x139002, x139003, x139004, x139005, x139006 => if x54 = true then (some false) else (frisketref08_SameBox.l0 k 0 x138000 x138001 x138002 x138003 x138004 x138005 x138006 x139000 x139001 x139002 x139003 x139004 x139005 x139006)
def frisketref08_SameBox.l0 : Nat → Int → Int → Int → Int → Int → ByteArray → ByteArray → List Int → Int → Int → Int → Int → ByteArray → ByteArray → List Int → Option (Bool)
 | 0, _, _, _, _, _, _, _, _, _, _, _, _, _, _, _ => none
 | k + 1, x5, x138000, x138001, x138002, x138003, x138004, x138005, x138006, x139000, x139001, x139002, x139003, x139004, x139005, x139006 => if x5 < (x138006.length : Int) then (if 0 ≤ x5 then (if x5 < (x139006.length : Int) then (if (rd x138006 x5) = (rd x139006 x5) then (frisketref08_SameBox.l0 k (wrap64 (x5 + 1)) x138000 x138001 x138002 x138003 x138004 x138005 x138006 x139000 x139001 x139002 x139003 x139004 x139005 x139006) else (some false)) else (none)) else (none)) else (some true)
end
def frisketref08_SameBox.f (k : Nat) (a0_0 : Int) (a0_1 : Int) (a0_2 : Int) (a0_3 : Int) (a0_4 : ByteArray) (a0_5 : ByteArray) (l0_6 : List Int) (a1_0 : Int) (a1_1 : Int) (a1_2 : Int) (a1_3 : Int) (a1_4 : ByteArray) (a1_5 : ByteArray) (l1_6 : List Int) : Option (Bool) := if a0_0 = a1_0 then (if a0_1 = a1_1 then (if a0_2 = a1_2 then (if a0_3 = a1_3 then (if a0_4.toList = a1_4.toList then (if a0_5.toList = a1_5.toList then (frisketref08_SameBox.j0 k ((l0_6.length : Int) != (l1_6.length : Int)) a0_0 a0_1 a0_2 a0_3 a0_4 a0_5 l0_6 a1_0 a1_1 a1_2 a1_3 a1_4 a1_5 l1_6) else (frisketref08_SameBox.j0 k true a0_0 a0_1 a0_2 a0_3 a0_4 a0_5 l0_6 a1_0 a1_1 a1_2 a1_3 a1_4 a1_5 l1_6)) else (frisketref08_SameBox.j0 k true a0_0 a0_1 a0_2 a0_3 a0_4 a0_5 l0_6 a1_0 a1_1 a1_2 a1_3 a1_4 a1_5 l1_6)) else (frisketref08_SameBox.j0 k true a0_0 a0_1 a0_2 a0_3 a0_4 a0_5 l0_6 a1_0 a1_1 a1_2 a1_3 a1_4 a1_5 l1_6)) else (frisketref08_SameBox.j0 k true a0_0 a0_1 a0_2 a0_3 a0_4 a0_5 l0_6 a1_0 a1_1 a1_2 a1_3 a1_4 a1_5 l1_6)) else (frisketref08_SameBox.j0 k true a0_0 a0_1 a0_2 a0_3 a0_4 a0_5 l0_6 a1_0 a1_1 a1_2 a1_3 a1_4 a1_5 l1_6)) else (frisketref08_SameBox.j0 k true a0_0 a0_1 a0_2 a0_3 a0_4 a0_5 l0_6 a1_0 a1_1 a1_2 a1_3 a1_4 a1_5 l1_6)
end Go.Proofs.Yteadghhmoggjnaa.Q
end
end
section
section
namespace Go.Proofs.Yteadghhmoggjnaa.Q
open Go.RowKit Go.Proofs.YteadghhmoggjnaaW.PrintWords Go.Proofs.YteadghhmoggjnaaW.PrintLast Go.Proofs.YteadghhmoggjnaaW.PrintMore
attribute [local go_sem] max2_int max_two
set_option linter.unusedVariables false
set_option linter.unusedSimpArgs false
/-! ### frisketref08_Same: function 14 -/
def frisketref08_Same.l0 : Nat → List (S33) → List (S33) → Int → Option (Bool)
 | 0, _, _, _ => none
 | k + 1, x0, x1, x5 => if x5 < (x0.length : Int) then (if 0 ≤ x5 then (if x5 < (x1.length : Int) then ((frisketref08_SameBox.f k ((rd_T33 x0 x5).f0) ((rd_T33 x0 x5).f1) ((rd_T33 x0 x5).f2) ((rd_T33 x0 x5).f3) ((rd_T33 x0 x5).f4) ((rd_T33 x0 x5).f5) ((rd_T33 x0 x5).f6) ((rd_T33 x1 x5).f0) ((rd_T33 x1 x5).f1) ((rd_T33 x1 x5).f2) ((rd_T33 x1 x5).f3) ((rd_T33 x1 x5).f4) ((rd_T33 x1 x5).f5) ((rd_T33 x1 x5).f6)).bind fun t143 => (if t143 = true then (frisketref08_Same.l0 k x0 x1 (wrap64 (x5 + 1))) else (some false))) else (none)) else (none)) else (some true)
def frisketref08_Same.f (k : Nat) (l0 : List (S33)) (l1 : List (S33)) : Option (Bool) := if (l0.length : Int) = (l1.length : Int) then (frisketref08_Same.l0 k l0 l1 0) else (some false)
end Go.Proofs.Yteadghhmoggjnaa.Q
end
end
section
section
/- Plain laws of the printed functions of chapter 11: Width, Same, Row. -/
set_option linter.unusedVariables false
set_option linter.unusedSimpArgs false
namespace Go.Proofs.YteadghhmoggjnaaB
open Go.RowKit
open Go.Proofs.Yteadghhmoggjnaa.Q
open Go.Proofs.YteadghhmoggjnaaW.PrintWords Go.Proofs.YteadghhmoggjnaaW.PrintLast
set_option maxHeartbeats 800000
theorem rdT_at {l : List S33} {j : Nat} {x : S33} (h : l[j]? = some x) : rd_T33 l (j : Int) = x := by
  unfold rd_T33
  rw [Int.toNat_natCast, List.getD_eq_getElem?_getD, h]
  rfl
theorem w64_succ {j : Nat} (h : j ≤ 1000000000000) : wrap64 ((j : Int) + 1) = ((j + 1 : Nat) : Int) := by
  unfold wrap64
  omega
theorem ref_width_l (l : List S33) (hl : l.length ≤ 1000000000000) : ∀ (k j : Nat), j ≤ l.length → l.length < k + j → frisketref08_Width.l0 k l (widthW (l.take j)) (j : Int) = some (widthW l)
  | 0, j, h1, h2 => by omega
  | k + 1, j, h1, h2 => by
    unfold frisketref08_Width.l0
    by_cases hj : j < l.length
    · rw [if_pos (by omega), if_pos (by omega)]
      obtain ⟨x, hx⟩ : ∃ x, l[j]? = some x := ⟨_, List.getElem?_eq_getElem hj⟩
      rw [rdT_at hx, w64_succ (by omega)]
      have ih := ref_width_l l hl k (j + 1) (by omega) (by omega)
      by_cases h3 : x.f0 = 3
      · rw [if_pos h3]
        rw [width_no hx (by simp [counts, h3])] at ih
        exact ih
      · rw [if_neg h3]
        by_cases h5 : x.f0 = 5
        · rw [if_pos h5]
          rw [width_no hx (by simp [counts, h5])] at ih
          exact ih
        · rw [if_neg h5]
          by_cases h0 : x.f0 ≥ 0
          · rw [if_pos h0]
            by_cases h6 : x.f0 ≤ 6
            · rw [if_pos h6]
              have hc : counts x = true := by
                have : x.f0 = 0 ∨ x.f0 = 1 ∨ x.f0 = 2 ∨ x.f0 = 4 ∨ x.f0 = 6 := by omega
                unfold counts
                rcases this with h | h | h | h | h <;> simp [h]
              rw [width_yes hx hc] at ih
              exact ih
            · rw [if_neg h6]
              rw [width_no hx (by unfold counts; simp; omega)] at ih
              exact ih
          · rw [if_neg h0]
            rw [width_no hx (by unfold counts; simp; omega)] at ih
            exact ih
    · rw [if_neg (by omega), List.take_of_length_le (by omega)]
theorem ref_width (l : List S33) (hl : l.length ≤ 1000000000000) {k : Nat} (hk : l.length < k) : frisketref08_Width.f k l = some (widthW l) := ref_width_l l hl k 0 (Nat.zero_le _) hk
/-! ### Row -/
def kOf (n : Int) : Int := wrap64 (Int.tmod (IntKind.u64.wrap n) 100000)
theorem kOf_range (n : Int) : 0 ≤ kOf n ∧ kOf n < 100000 := by
  unfold kOf
  rw [IntKind.wrap_u64, Int.tmod_eq_emod_of_nonneg (by omega)]
  unfold wrap64
  omega
/-- One letter. -/
def letter (c : Int) : ByteArray := (⟨#[97, 98, 99, 100, 101, 102, 103, 104]⟩ : ByteArray).extract c.toNat (wrap64 (c + 1)).toNat
def boxRQ (r q : Int) : S33 :=
  if r = 0 ∨ r = 1 ∨ r = 2 then ⟨1, Int.tmod q 20, 0, 10, ⟨#[]⟩, ⟨#[]⟩, []⟩
  else if r = 3 ∨ r = 4 then ⟨5, 0, 0, 0, ⟨#[]⟩, ⟨#[]⟩, []⟩
  else if r = 5 then ⟨1, 5, 0, 10, ⟨#[126]⟩, ⟨#[]⟩, []⟩
  else if r = 6 then ⟨2, wrap64 (Int.tmod q 31 - 15), 0, 0, ⟨#[]⟩, ⟨#[]⟩, []⟩
  else if r = 7 then ⟨6, Int.tmod q 10, 0, 0, ⟨#[]⟩, ⟨#[]⟩, []⟩
  else ⟨0, wrap64 (5 + Int.tmod q 12), 0, 10, letter (Int.tmod q 8), ⟨#[]⟩, []⟩
def boxOf (n : Int) : S33 := boxRQ (Int.tmod (kOf n) 12) (wrap64 (Int.tdiv (kOf n) 12))
def rowL (l : List Int) : List S33 := (l.take 120).map boxOf
theorem rd_at {l : List Int} {j : Nat} {x : Int} (h : l[j]? = some x) : rd l (j : Int) = x := by
  unfold rd
  rw [Int.toNat_natCast, List.getD_eq_getElem?_getD, h]
  rfl
theorem row_step (l : List Int) {j : Nat} {n : Int} (h : l[j]? = some n) : (l.take (j + 1)).map boxOf = (l.take j).map boxOf ++ [boxOf n] := by
  obtain ⟨hj, rfl⟩ := List.getElem?_eq_some_iff.1 h
  rw [List.take_succ_eq_append_getElem hj, List.map_append]
  rfl
theorem row_one (l : List Int) (acc : List S33) (j kk r : Int) (R : List S33) (k : Nat) (hr0 : 0 ≤ r) (hr1 : r < 12) (hlen : acc.length < 1599289640401)
    (hc0 : 0 ≤ Int.tmod (wrap64 (Int.tdiv kk 12)) 8) (hc1 : Int.tmod (wrap64 (Int.tdiv kk 12)) 8 ≤ wrap64 (Int.tmod (wrap64 (Int.tdiv kk 12)) 8 + 1)) (hc2 : wrap64 (Int.tmod (wrap64 (Int.tdiv kk 12)) 8 + 1) ≤ 8)
    (ih1 : frisketlaw11_Row.l0 (k + 1) l (acc ++ [boxRQ r (wrap64 (Int.tdiv kk 12))]) (wrap64 (j + 1)) = some R) (ih2 : frisketlaw11_Row.l0 k l (acc ++ [boxRQ r (wrap64 (Int.tdiv kk 12))]) (wrap64 (j + 1)) = some R) :
    (if r = 0 then frisketlaw11_Row.j2 (k + 2) l acc j kk r (r == 0) else if r = 1 then frisketlaw11_Row.j2 (k + 2) l acc j kk r (r == 1) else frisketlaw11_Row.j2 (k + 2) l acc j kk r (r == 2)) = some R := by
  have : r = 0 ∨ r = 1 ∨ r = 2 ∨ r = 3 ∨ r = 4 ∨ r = 5 ∨ r = 6 ∨ r = 7 ∨ r = 8 ∨ r = 9 ∨ r = 10 ∨ r = 11 := by omega
  rcases this with rfl | rfl | rfl | rfl | rfl | rfl | rfl | rfl | rfl | rfl | rfl | rfl
  · rw [if_pos rfl]; unfold frisketlaw11_Row.j2; rw [if_pos (by decide)]
    show (if acc.length < 1599289640401 then _ else none) = _
    rw [if_pos hlen]; exact ih1
  · rw [if_neg (by decide), if_pos rfl]; unfold frisketlaw11_Row.j2; rw [if_pos (by decide)]
    show (if acc.length < 1599289640401 then _ else none) = _
    rw [if_pos hlen]; exact ih1
  · rw [if_neg (by decide), if_neg (by decide)]; unfold frisketlaw11_Row.j2; rw [if_pos (by decide)]
    show (if acc.length < 1599289640401 then _ else none) = _
    rw [if_pos hlen]; exact ih1
  · rw [if_neg (by decide), if_neg (by decide)]; unfold frisketlaw11_Row.j2; rw [if_neg (by decide), if_pos rfl]; unfold frisketlaw11_Row.j3; rw [if_pos (by decide), if_pos hlen]; exact ih2
  · rw [if_neg (by decide), if_neg (by decide)]; unfold frisketlaw11_Row.j2; rw [if_neg (by decide), if_neg (by decide)]; unfold frisketlaw11_Row.j3; rw [if_pos (by decide), if_pos hlen]; exact ih2
  · rw [if_neg (by decide), if_neg (by decide)]; unfold frisketlaw11_Row.j2; rw [if_neg (by decide), if_neg (by decide)]; unfold frisketlaw11_Row.j3; rw [if_neg (by decide), if_pos rfl, if_pos hlen]; exact ih2
  · rw [if_neg (by decide), if_neg (by decide)]; unfold frisketlaw11_Row.j2; rw [if_neg (by decide), if_neg (by decide)]; unfold frisketlaw11_Row.j3; rw [if_neg (by decide), if_neg (by decide), if_pos rfl, if_pos hlen]; exact ih2
  · rw [if_neg (by decide), if_neg (by decide)]; unfold frisketlaw11_Row.j2; rw [if_neg (by decide), if_neg (by decide)]; unfold frisketlaw11_Row.j3; rw [if_neg (by decide), if_neg (by decide), if_neg (by decide), if_pos rfl, if_pos hlen]; exact ih2
  all_goals (rw [if_neg (by decide), if_neg (by decide)]; unfold frisketlaw11_Row.j2; rw [if_neg (by decide), if_neg (by decide)]; unfold frisketlaw11_Row.j3; rw [if_neg (by decide), if_neg (by decide), if_neg (by decide), if_neg (by decide), if_pos hc0, if_pos hc1, if_pos hc2, if_pos hlen]; exact ih2)
theorem row_l (l : List Int) : ∀ (m j k : Nat), j ≤ l.length → j ≤ 120 → 120 = m + j → 4 * m + 2 ≤ k → frisketlaw11_Row.l0 k l ((l.take j).map boxOf) (j : Int) = some (rowL l)
  | m, j, 0, _, _, _, h => by omega
  | m, j, 1, _, _, _, h => by omega
  | m, j, k + 2, h1, h2, h3, h4 => by
    unfold frisketlaw11_Row.l0
    by_cases hj : j < l.length
    · rw [if_pos (by omega)]
      by_cases hj2 : j < 120
      · rw [show decide ((j : Int) < 120) = true from decide_eq_true (by omega)]
        unfold frisketlaw11_Row.j1
        rw [if_pos rfl, if_pos (by omega), if_pos (by omega)]
        obtain ⟨n, hn⟩ : ∃ n, l[j]? = some n := ⟨_, List.getElem?_eq_getElem hj⟩
        rw [rd_at hn, show wrap64 (Int.tmod (IntKind.u64.wrap n) 100000) = kOf n from rfl]
        obtain ⟨m, rfl⟩ : ∃ m', m = m' + 1 := ⟨m - 1, by omega⟩
        obtain ⟨k, rfl⟩ : ∃ k', k = k' + 4 := ⟨k - 4, by omega⟩
        have hk := kOf_range n
        have ih := row_l l m (j + 1) (k + 2) (by omega) (by omega) (by omega) (by omega)
        have ih3 := row_l l m (j + 1) (k + 3) (by omega) (by omega) (by omega) (by omega)
        rw [row_step l hn] at ih ih3
        have hlen : ((l.take j).map boxOf).length < 1599289640401 := by rw [List.length_map, List.length_take]; omega
        have h12 : 0 ≤ Int.tmod (kOf n) 12 ∧ Int.tmod (kOf n) 12 < 12 := by rw [Int.tmod_eq_emod_of_nonneg hk.1]; omega
        have hq0 : 0 ≤ wrap64 (Int.tdiv (kOf n) 12) ∧ wrap64 (Int.tdiv (kOf n) 12) < 100000 := by rw [Int.tdiv_eq_ediv_of_nonneg hk.1]; unfold wrap64; omega
        have hc : 0 ≤ Int.tmod (wrap64 (Int.tdiv (kOf n) 12)) 8 ∧ Int.tmod (wrap64 (Int.tdiv (kOf n) 12)) 8 < 8 := by rw [Int.tmod_eq_emod_of_nonneg hq0.1]; omega
        refine row_one l _ _ _ _ (rowL l) (k + 2) h12.1 h12.2 hlen hc.1 (by have h := hc; revert h; generalize Int.tmod (wrap64 (Int.tdiv (kOf n) 12)) 8 = c; intro h; unfold wrap64; omega) (by have h := hc; revert h; generalize Int.tmod (wrap64 (Int.tdiv (kOf n) 12)) 8 = c; intro h; unfold wrap64; omega) ?_ ?_
        · rw [w64_succ (by omega)]; exact ih3
        · rw [w64_succ (by omega)]; exact ih
      · rw [show decide ((j : Int) < 120) = false from decide_eq_false (by omega)]
        unfold frisketlaw11_Row.j1
        rw [if_neg (by decide)]
        unfold rowL
        rw [show j = 120 by omega]
    · rw [if_neg (by omega)]
      unfold frisketlaw11_Row.j1
      rw [if_neg (by decide)]
      unfold rowL
      rw [List.take_of_length_le (by omega), List.take_of_length_le (by omega)]
theorem row_f (l : List Int) {k : Nat} (hk : 482 ≤ k) : frisketlaw11_Row.f k l = some (rowL l) := row_l l 120 0 k (Nat.zero_le _) (by omega) rfl hk
theorem rowL_len (l : List Int) : (rowL l).length ≤ 120 := by
  unfold rowL
  rw [List.length_map, List.length_take]
  omega
theorem letter_all : (List.range 8).all (fun (c : Nat) => namedB (letter (c : Int))) = true := by kernel_rfl
theorem letter_ok (c : Int) (h0 : 0 ≤ c) (h1 : c < 8) : namedB (letter c) = true := by
  have h := List.all_eq_true.1 letter_all c.toNat (List.mem_range.2 (by omega))
  rw [Int.toNat_of_nonneg h0] at h
  exact h
/-- What every box of numbers is. -/
theorem boxOf_ok (n : Int) : validB (boxOf n) = true ∧ (boxOf n).f6 = [] ∧ (-15 ≤ (boxOf n).f1 ∧ (boxOf n).f1 ≤ 20) := by
  have hk := kOf_range n
  have hr : 0 ≤ Int.tmod (kOf n) 12 ∧ Int.tmod (kOf n) 12 < 12 := by rw [Int.tmod_eq_emod_of_nonneg hk.1]; omega
  have hq : 0 ≤ wrap64 (Int.tdiv (kOf n) 12) ∧ wrap64 (Int.tdiv (kOf n) 12) < 100000 := by rw [Int.tdiv_eq_ediv_of_nonneg hk.1]; unfold wrap64; omega
  have h20 : 0 ≤ Int.tmod (wrap64 (Int.tdiv (kOf n) 12)) 20 ∧ Int.tmod (wrap64 (Int.tdiv (kOf n) 12)) 20 < 20 := by rw [Int.tmod_eq_emod_of_nonneg hq.1]; omega
  have h31 : 0 ≤ Int.tmod (wrap64 (Int.tdiv (kOf n) 12)) 31 ∧ Int.tmod (wrap64 (Int.tdiv (kOf n) 12)) 31 < 31 := by rw [Int.tmod_eq_emod_of_nonneg hq.1]; omega
  have h10 : 0 ≤ Int.tmod (wrap64 (Int.tdiv (kOf n) 12)) 10 ∧ Int.tmod (wrap64 (Int.tdiv (kOf n) 12)) 10 < 10 := by rw [Int.tmod_eq_emod_of_nonneg hq.1]; omega
  have h12 : 0 ≤ Int.tmod (wrap64 (Int.tdiv (kOf n) 12)) 12 ∧ Int.tmod (wrap64 (Int.tdiv (kOf n) 12)) 12 < 12 := by rw [Int.tmod_eq_emod_of_nonneg hq.1]; omega
  have h8 : 0 ≤ Int.tmod (wrap64 (Int.tdiv (kOf n) 12)) 8 ∧ Int.tmod (wrap64 (Int.tdiv (kOf n) 12)) 8 < 8 := by rw [Int.tmod_eq_emod_of_nonneg hq.1]; omega
  have hcol : colourB ⟨#[]⟩ = true := by kernel_rfl
  unfold boxOf
  generalize Int.tmod (kOf n) 12 = r at *
  generalize wrap64 (Int.tdiv (kOf n) 12) = q at *
  have hv : ∀ x : S33, -15 ≤ x.f1 → x.f1 ≤ 20 → x.f2 = 0 → 0 ≤ x.f3 → x.f5 = ⟨#[]⟩ → validB x = (if x.f0 = 0 then namedB x.f4 && (x.f6.length == 0)
   else if x.f0 = 1 then ((x.f4.toList == []) || (x.f4.toList == [126])) && (x.f5.toList == []) && (x.f6.length == 0)
   else if x.f0 = 4 then (x.f2 == 0) && (x.f3 == 0) && (x.f4.size == 1) && strokeB x.f4 && decide (x.f6.length ≤ 40) && allI farV x.f6
   else if x.f0 = 5 then bareB x && (x.f4.toList == []) && (x.f1 == 0)
   else if x.f0 = 2 ∨ x.f0 = 3 ∨ x.f0 = 6 then bareB x && (x.f4.toList == [])
   else false) := fun x a1 a2 a3 a4 a5 => by
    unfold validB
    rw [decide_eq_false (by omega : ¬ x.f1 < -1000000), decide_eq_false (by omega : ¬ 1000000 < x.f1), decide_eq_false (by omega : ¬ x.f2 < 0), decide_eq_false (by omega : ¬ x.f3 < 0), a5, hcol]
    rfl
  have hmt : (⟨#[]⟩ : ByteArray).toList = [] := by kernel_rfl
  have htl : (⟨#[126]⟩ : ByteArray).toList = [126] := by kernel_rfl
  unfold boxRQ
  split
  · refine ⟨?_, rfl, by dsimp only; omega⟩
    rw [hv _ (by dsimp only; omega) (by dsimp only; omega) rfl (by dsimp only; omega) rfl]
    dsimp only
    rw [hmt]
    rfl
  · split
    · refine ⟨by kernel_rfl, rfl, by decide⟩
    · split
      · refine ⟨by kernel_rfl, rfl, by decide⟩
      · split
        · have e : -15 ≤ wrap64 (Int.tmod q 31 - 15) ∧ wrap64 (Int.tmod q 31 - 15) ≤ 20 := by unfold wrap64; omega
          refine ⟨?_, rfl, e⟩
          rw [hv _ e.1 e.2 rfl (by dsimp only; omega) rfl]
          dsimp only
          unfold bareB
          dsimp only
          rw [hmt]
          rfl
        · split
          · refine ⟨?_, rfl, by dsimp only; omega⟩
            rw [hv _ (by dsimp only; omega) (by dsimp only; omega) rfl (by dsimp only; omega) rfl]
            dsimp only
            unfold bareB
            dsimp only
            rw [hmt]
            rfl
          · have e : -15 ≤ wrap64 (5 + Int.tmod q 12) ∧ wrap64 (5 + Int.tmod q 12) ≤ 20 := by unfold wrap64; omega
            refine ⟨?_, rfl, e⟩
            rw [hv _ e.1 e.2 rfl (by dsimp only; omega) rfl]
            dsimp only
            rw [letter_ok _ h8.1 h8.2]
            rfl
end Go.Proofs.YteadghhmoggjnaaB
end
section
/- Plain laws: how broad a row of numbers is; Adjust at it. -/
set_option linter.unusedVariables false
namespace Go.Proofs.YteadghhmoggjnaaB
open Go.RowKit
open Go.Proofs.Yteadghhmoggjnaa.Q (S33)
open Go.Proofs.YteadghhmoggjnaaW.PrintWords Go.Proofs.YteadghhmoggjnaaW.PrintLast
theorem rowL_mem {l : List Int} {x : S33} (h : x ∈ rowL l) : ∃ n, x = boxOf n := by
  unfold rowL at h
  obtain ⟨n, -, rfl⟩ := List.mem_map.1 h
  exact ⟨n, rfl⟩
end Go.Proofs.YteadghhmoggjnaaB
end
end
section
namespace Go.Proofs.Yteadghhmoggjnaa.Q
open Go.RowKit Go.Proofs.YteadghhmoggjnaaW.PrintWords Go.Proofs.YteadghhmoggjnaaW.PrintLast Go.Proofs.YteadghhmoggjnaaW.PrintMore
attribute [local go_sem] max2_int max_two
set_option linter.unusedVariables false
set_option linter.unusedSimpArgs false
/-! ### frisketref11_front: function 70 -/
def frisketref11_front.l0 : Nat → List (S33) → Int → Option ((List (S33)))
 | 0, _, _ => none
 | k + 1, x0, x3 => if x3 < (x0.length : Int) then (if 0 ≤ x3 then ((frisketref11_Blank.f ((rd_T33 x0 x3).f0) ((rd_T33 x0 x3).f1) ((rd_T33 x0 x3).f2) ((rd_T33 x0 x3).f3) ((rd_T33 x0 x3).f4) ((rd_T33 x0 x3).f5) ((rd_T33 x0 x3).f6)).bind fun t426 => (if t426 = true then (frisketref11_front.l0 k x0 (wrap64 (x3 + 1))) else (if x3 ≤ (x0.length : Int) then (some (x0.drop (x3 : Int).toNat)) else (none)))) else (none)) else (if 0 ≤ x3 then (if x3 ≤ (x0.length : Int) then (some (x0.drop (x3 : Int).toNat)) else (none)) else (none))
end Go.Proofs.Yteadghhmoggjnaa.Q
end
section
/- Plain laws of the document's functions of chapter 11: Blank, word, front, own, places, cut, Valid, check. -/
set_option linter.unusedVariables false
set_option linter.unusedSimpArgs false
namespace Go.Proofs.YteadghhmoggjnaaB
open Go.RowKit
open Go.Proofs.Yteadghhmoggjnaa.Q
open Go.Proofs.YteadghhmoggjnaaW.PrintWords Go.Proofs.YteadghhmoggjnaaW.PrintLast
set_option maxHeartbeats 800000
theorem ev_pos {α : Type} {c : Prop} [Decidable c] {a b : Nat → Option α} {r : α} (h : c) (k : Ev a r) : Ev (fun n => if c then a n else b n) r := Ev.congr (fun _ => if_pos h) k
theorem ev_neg {α : Type} {c : Prop} [Decidable c] {a b : Nat → Option α} {r : α} (h : ¬ c) (k : Ev b r) : Ev (fun n => if c then a n else b n) r := Ev.congr (fun _ => if_neg h) k
theorem ev_some {α β : Type} {a : α} {f : Nat → α → Option β} {r : β} (k : Ev (fun n => f n a) r) : Ev (fun n => (some a).bind (f n)) r := Ev.congr (fun _ => rfl) k
theorem ev_known {α β : Type} {g : Option α} {a : α} {f : Nat → α → Option β} {r : β} (h : g = some a) (k : Ev (fun n => f n a) r) : Ev (fun n => g.bind (f n)) r := by subst h; exact Ev.congr (fun _ => rfl) k
theorem ev_now {α : Type} {a r : α} (h : a = r) : Ev (fun _ => some a) r := h ▸ Ev.now a
theorem w64_id {n : Int} (h0 : -9223372036854775808 ≤ n) (h1 : n ≤ 9223372036854775807) : wrap64 n = n := by unfold wrap64; omega
theorem w64_suc {j : Nat} (h : j ≤ 9000000000000000000) : wrap64 ((j : Int) + 1) = ((j + 1 : Nat) : Int) := by
 rw [w64_id (by omega) (by omega)]
 omega
theorem samebox2_l (x : S33) (hx : x.f6.length ≤ 9000000000000000000) : ∀ (d j : Nat), j + d = x.f6.length → Ev (fun k => frisketref08_SameBox.l0 k (j : Int) x.f0 x.f1 x.f2 x.f3 x.f4 x.f5 x.f6 x.f0 x.f1 x.f2 x.f3 x.f4 x.f5 x.f6) true
 | 0, j, h => by
  refine Ev.step (fun k => by rw [frisketref08_SameBox.l0]) ?_
  exact ev_neg (by omega) (ev_now rfl)
 | d + 1, j, h => by
  refine Ev.step (fun k => by rw [frisketref08_SameBox.l0]) (ev_pos (by omega) (ev_pos (by omega) (ev_pos (by omega) (ev_pos rfl ?_))))
  rw [w64_suc (by omega)]
  exact samebox2_l x hx d (j + 1) (by omega)
theorem samebox2 (x : S33) (hx : x.f6.length ≤ 9000000000000000000) : Ev (fun k => frisketref08_SameBox.f k x.f0 x.f1 x.f2 x.f3 x.f4 x.f5 x.f6 x.f0 x.f1 x.f2 x.f3 x.f4 x.f5 x.f6) true := by
 have e : ((x.f6.length : Int) != (x.f6.length : Int)) = false := by simp
 refine ev_pos rfl (ev_pos rfl (ev_pos rfl (ev_pos rfl (ev_pos rfl (ev_pos rfl ?_)))))
 rw [e]
 refine Ev.step (fun k => by rw [frisketref08_SameBox.j0]) (ev_neg (by decide) ?_)
 exact samebox2_l x hx x.f6.length 0 (by omega)
theorem same2_l (l : List S33) (hl : l.length ≤ 9000000000000000000) (h6 : ∀ x ∈ l, x.f6.length ≤ 9000000000000000000) : ∀ (d j : Nat), j + d = l.length → Ev (fun k => frisketref08_Same.l0 k l l (j : Int)) true
 | 0, j, h => by
  refine Ev.step (fun k => by rw [frisketref08_Same.l0]) ?_
  exact ev_neg (by omega) (ev_now rfl)
 | d + 1, j, h => by
  obtain ⟨x, hx⟩ : ∃ x, l[j]? = some x := ⟨_, List.getElem?_eq_getElem (by omega)⟩
  refine Ev.step (fun k => by rw [frisketref08_Same.l0]) (ev_pos (by omega) (ev_pos (by omega) (ev_pos (by omega) ?_)))
  rw [rdT_at hx, w64_suc (by omega)]
  exact Ev.bind (samebox2 x (h6 x (List.mem_of_getElem? hx))) (ev_pos rfl (same2_l l hl h6 d (j + 1) (by omega)))
theorem same_ev (l : List S33) (hl : l.length ≤ 9000000000000000000) (h6 : ∀ x ∈ l, x.f6.length ≤ 9000000000000000000) : Ev (fun k => frisketref08_Same.f k l l) true := by
 refine ev_pos rfl ?_
 exact same2_l l hl h6 l.length 0 (by omega)
theorem blank_f (x : S33) : frisketref11_Blank.f x.f0 x.f1 x.f2 x.f3 x.f4 x.f5 x.f6 = some (blankB x) := by
 unfold frisketref11_Blank.f blankB
 by_cases h : x.f0 = 1
 ·rw [if_pos h, h]; rfl
 ·rw [if_neg h, beq_eq_false_iff_ne.2 h]; rfl
/-! ### word -/
theorem ref_word_l (l : List S33) (hl : l.length ≤ 1000000) (at_ : Nat) (hat : at_ ≤ l.length) : ∀ (d n : Nat), n + d = (l.drop at_).findIdx blankB → Ev (fun k => frisketref11_word.l0 k l (at_ : Int) (n : Int)) (((l.drop at_).findIdx blankB : Nat) : Int)
 | 0, n, h => by
  have hn : n = (l.drop at_).findIdx blankB := by omega
  refine Ev.step (fun k => by rw [frisketref11_word.l0]) ?_
  have hle := List.findIdx_le_length (p := blankB) (xs := l.drop at_)
  have hdl : (l.drop at_).length = l.length - at_ := List.length_drop
  rw [show wrap64 ((at_ : Int) + (n : Int)) = ((at_ + n : Nat) : Int) by rw [w64_id (by omega) (by omega)]; omega]
  by_cases hlt : at_ + n < l.length
  ·refine ev_pos (by omega) (ev_pos (by omega) ?_)
   have hx : l[at_ + n]? = some l[at_ + n] := List.getElem?_eq_getElem hlt
   rw [rdT_at hx, blank_f]
   refine ev_some (ev_pos ?_ (ev_now (by rw [hn])))
   have h3 := List.findIdx_getElem (w := by omega) (p := blankB) (xs := l.drop at_)
   rw [List.getElem_drop] at h3
   simp only [← hn] at h3
   exact h3
  ·exact ev_neg (by omega) (ev_now (by rw [hn]))
 | d + 1, n, h => by
  refine Ev.step (fun k => by rw [frisketref11_word.l0]) ?_
  have hle := List.findIdx_le_length (p := blankB) (xs := l.drop at_)
  have hdl : (l.drop at_).length = l.length - at_ := List.length_drop
  rw [show wrap64 ((at_ : Int) + (n : Int)) = ((at_ + n : Nat) : Int) by rw [w64_id (by omega) (by omega)]; omega]
  have hlt : at_ + n < l.length := by omega
  refine ev_pos (by omega) (ev_pos (by omega) ?_)
  have hx : l[at_ + n]? = some l[at_ + n] := List.getElem?_eq_getElem hlt
  rw [rdT_at hx, blank_f]
  have h3 : blankB l[at_ + n] = false := by
   have h4 := List.not_of_lt_findIdx (p := blankB) (xs := l.drop at_) (i := n) (by omega)
   rw [List.getElem_drop] at h4
   simpa using h4
  refine ev_some (ev_neg (by rw [h3]; decide) ?_)
  rw [w64_succ (by omega)]
  exact ref_word_l l hl at_ hat d (n + 1) (by omega)
theorem ref_word (l : List S33) (hl : l.length ≤ 1000000) (at_ : Nat) (hat : at_ ≤ l.length) : Ev (fun k => frisketref11_word.f k l (at_ : Int)) (((l.drop at_).findIdx blankB : Nat) : Int) := ref_word_l l hl at_ hat ((l.drop at_).findIdx blankB) 0 (by omega)
/-! ### front -/
theorem restL_cons {x : S33} {l : List S33} : restL (x :: l) = if blankB x = true then restL l else x :: l := by unfold restL; rw [List.dropWhile_cons]
theorem ref_front_l (l : List S33) (hl : l.length ≤ 1000000) : ∀ (d i : Nat), i + d = l.length → Ev (fun k => frisketref11_front.l0 k l (i : Int)) (restL (l.drop i))
 | 0, i, h => by
  refine Ev.step (fun k => by rw [frisketref11_front.l0]) (ev_neg (by omega) (ev_pos (by omega) (ev_pos (by omega) (ev_now ?_))))
  rw [List.drop_eq_nil_of_le (by omega), List.drop_eq_nil_of_le (by omega)]
  rfl
 | d + 1, i, h => by
  have hlt : i < l.length := by omega
  have hx : l[i]? = some l[i] := List.getElem?_eq_getElem hlt
  refine Ev.step (fun k => by rw [frisketref11_front.l0]) (ev_pos (by omega) (ev_pos (by omega) ?_))
  rw [rdT_at hx, blank_f]
  rw [List.drop_eq_getElem_cons hlt, restL_cons]
  refine ev_some ?_
  by_cases hb : blankB l[i] = true
  ·rw [if_pos hb]
   refine ev_pos hb ?_
   rw [w64_succ (by omega)]
   exact ref_front_l l hl d (i + 1) (by omega)
  ·rw [if_neg hb]
   refine ev_neg hb (ev_pos (by omega) (ev_now ?_))
   rw [Int.toNat_natCast, List.drop_eq_getElem_cons hlt]
/-! ### own -/
theorem ref_own_l (l : List S33) (hl : l.length ≤ 1000000) (h6 : ∀ x ∈ l, x.f6.length ≤ 17592186044415) : ∀ (d i : Nat), i + d = l.length → Ev (fun k => frisketref11_own.l0 k l (l.take i) (i : Int)) l
 | 0, i, h => by
  refine Ev.step (fun k => by rw [frisketref11_own.l0]) (ev_neg (by omega) (ev_now ?_))
  rw [List.take_of_length_le (by omega)]
 | d + 1, i, h => by
  have hlt : i < l.length := by omega
  have hx : l[i]? = some l[i] := List.getElem?_eq_getElem hlt
  have h6x := h6 l[i] (List.getElem_mem hlt)
  have htl : (l.take i).length = i := by rw [List.length_take]; omega
  refine Ev.step (fun k => by rw [frisketref11_own.l0]) (ev_pos (by omega) (ev_pos (by omega) ?_))
  rw [rdT_at hx]
  refine ev_some (ev_pos (by simp only [List.length_nil]; omega) (ev_pos (by omega) ?_))
  have e : l.take i ++ [(⟨l[i].f0, l[i].f1, l[i].f2, l[i].f3, l[i].f4, l[i].f5, ([] : List Int) ++ l[i].f6⟩ : S33)] = l.take (i + 1) := by
   rw [List.nil_append, List.take_succ_eq_append_getElem hlt]
  rw [e, w64_succ (by omega)]
  exact ref_own_l l hl h6 d (i + 1) (by omega)
theorem ref_own (l : List S33) (hl : l.length ≤ 1000000) (h6 : ∀ x ∈ l, x.f6.length ≤ 17592186044415) : Ev (fun k => frisketref11_own.f k l) l := ref_own_l l hl h6 l.length 0 (by omega)
/-! ### places -/
theorem solidP_not {x : S33} : solidP x = true ↔ ¬ x.f0 = 5 := by unfold solidP; exact bne_iff_ne
/-! ### cut -/
end Go.Proofs.YteadghhmoggjnaaB
end
section
/- Plain laws of the document's functions of chapter 11: Valid, check, hyphens. -/
set_option linter.unusedVariables false
set_option linter.unusedSimpArgs false
namespace Go.Proofs.YteadghhmoggjnaaB
open Go.RowKit
open Go.Proofs.Yteadghhmoggjnaa.Q
open Go.Proofs.YteadghhmoggjnaaW.PrintWords Go.Proofs.YteadghhmoggjnaaW.PrintLast
set_option maxHeartbeats 1600000
/-! ### Valid -/
/-! ### check -/
/-- What boxes a call can bear: no list in them is too long for the law. -/
def Fit (x : S33) : Prop := x.f6.length ≤ 17592186044415 ∧ x.f5.size ≤ 17592186044415000 ∧ x.f4.size ≤ 17592186044415000
def hyphB (h : S33) : Bool := validB h && ((h.f0 == 0) || (h.f0 == 5))
theorem fill_hyph (h : S33) : fill_hyphens.f h.f0 h.f1 h.f2 h.f3 h.f4 h.f5 h.f6 = some (hyphB h) := by
 unfold fill_hyphens.f glyph_Valid.f hyphB
 rw [Option.bind_some]
 cases validB h
 ·exact if_neg (by decide)
 ·rw [if_pos rfl]
  by_cases h0 : h.f0 = 0
  ·rw [h0]; rfl
  ·rw [if_neg h0, beq_eq_false_iff_ne.2 h0]; rfl
end Go.Proofs.YteadghhmoggjnaaB
end
section
/- Plain law of the document's take (chapter 11): it is takeL. -/
set_option linter.unusedVariables false
set_option linter.unusedSimpArgs false
namespace Go.Proofs.YteadghhmoggjnaaB
open Go.RowKit
open Go.Proofs.Yteadghhmoggjnaa.Q
open Go.Proofs.YteadghhmoggjnaaW.PrintWords Go.Proofs.YteadghhmoggjnaaW.PrintLast
set_option maxHeartbeats 1600000
theorem begA_len (R : List S33) {i : Nat} (hi : i ≤ R.length) : (restL (R.drop i)).length + begA R i = R.length := by
 have h1 := begA_drop (row := R) i
 have h2 := begA_le (row := R) hi
 have h3 := congrArg List.length h1
 rw [List.length_drop] at h3
 omega
theorem begA_solid (R : List S33) {i : Nat} (hi : i < R.length) (hb : ¬ blankB R[i] = true) : begA R i = i := by
 have h1 := begA_len R (Nat.le_of_lt hi)
 rw [List.drop_eq_getElem_cons hi, restL_cons, if_neg hb, List.length_cons, List.length_drop] at h1
 omega
theorem placesL_mem {l : List S33} {p : Int} (h : p ∈ placesL l) : ∃ q : Nat, p = (q : Int) ∧ brk l q = true := by
 unfold placesL placesTo at h
 obtain ⟨q, hq, rfl⟩ := List.mem_map.1 h
 exact ⟨q, rfl, (List.mem_filter.1 hq).2⟩
theorem brk_lt {l : List S33} {q : Nat} (h : brk l q = true) : q + 1 < l.length := by
 unfold brk at h
 cases hx : l[q]? with
 | none => rw [hx] at h; cases h
 | some x =>
  rw [hx] at h
  simp only [Bool.and_eq_true] at h
  have h2 := h.2.2
  apply Nat.lt_of_not_le
  intro hle
  rw [List.drop_eq_nil_of_le hle] at h2
  exact absurd h2 (by unfold noneB; decide)
theorem restL_solid {l : List S33} (h : ∀ x, l[0]? = some x → blankB x = false) : restL l = l := by
 cases l with
 | nil => rfl
 | cons x r => rw [restL_cons, if_neg (by rw [h x rfl]; decide)]
end Go.Proofs.YteadghhmoggjnaaB
end
section
/- fill.Words: what it computes, and the walk. -/
namespace Go.Proofs.Yteadghhmoggjnaa.Q
open Go.RowKit Go.Proofs.YteadghhmoggjnaaW.PrintWords Go.Proofs.YteadghhmoggjnaaW.PrintLast Go.Proofs.YteadghhmoggjnaaW.PrintMore
open Go.Proofs.YteadghhmoggjnaaB (C_boxes rd_boxes boxK rest_any SlRd Kind.Rd restL blankB okL okL_len okL_max okL_small restL_le restL_mem restL_head)
attribute [local go_sem] max2_int max_two
set_option linter.unusedVariables false
set_option linter.unusedSimpArgs false
/-- The words of a row that begins with one. -/
def wordsGo : Nat → List S33 → List (List S33)
 | 0, _ => []
 | f + 1, R => match R with
  | [] => []
  | x :: r => (x :: r).take ((x :: r).findIdx blankB) :: wordsGo f (restL ((x :: r).drop ((x :: r).findIdx blankB)))
def wordsL (l : List S33) : List (List S33) := wordsGo (l.length + 1) (restL l)
theorem fblank_f (x : S33) : fill_blank.f x.f0 x.f1 x.f2 x.f3 x.f4 x.f5 x.f6 = some (blankB x) := by
 unfold fill_blank.f blankB
 by_cases h : x.f0 = 1
 ·rw [if_pos h, h]; rfl
 ·rw [if_neg h, beq_eq_false_iff_ne.2 h]; rfl
theorem frest_f : ∀ l : List S33, fill_rest.f (l.length + 1) l = some (restL l)
 | [] => by
  show fill_rest.l0 1 [] = some (restL [])
  rw [fill_rest.l0, if_neg (by simp)]
  rfl
 | x :: r => by
  show fill_rest.l0 ((x :: r).length + 1) (x :: r) = some (restL (x :: r))
  rw [fill_rest.l0, if_pos (by simp), if_pos (by simp)]
  have e : rd_T33 (x :: r) 0 = x := rfl
  rw [e, fblank_f, Option.bind_some]
  unfold restL
  rw [List.dropWhile_cons]
  by_cases hb : blankB x = true
  ·rw [if_pos hb, if_pos hb, if_pos (by rw [List.length_cons]; omega)]
   exact frest_f r
  ·rw [if_neg hb, if_neg hb]
theorem findIdx_pos {l : List S33} (hl : 0 < l.length) (h : ∀ x, l[0]? = some x → blankB x = false) : 0 < l.findIdx blankB := by
 cases l with
 | nil => simp at hl
 | cons x r =>
  have hx := h x rfl
  rw [List.findIdx_cons, hx]
  simp
end Go.Proofs.Yteadghhmoggjnaa.Q
end
section
/- Plain laws of fill.Break: its lines, one behind the other. -/
set_option linter.unusedVariables false
set_option linter.unusedSimpArgs false
namespace Go.Proofs.YteadghhmoggjnaaB
open Go.RowKit
open Go.Proofs.Yteadghhmoggjnaa.Q
open Go.Proofs.YteadghhmoggjnaaW.PrintWords Go.Proofs.YteadghhmoggjnaaW.PrintLast Go.Proofs.YteadghhmoggjnaaW.PrintMore
set_option maxHeartbeats 1600000
theorem box_fit' (n : Int) : Fit (boxOf n) := by
 obtain ⟨h1, h2, -⟩ := boxOf_ok n
 refine ⟨by rw [h2]; exact Nat.zero_le _, ?_, ?_⟩
 ·have hc : colourB (boxOf n).f5 = true := by
   unfold validB at h1
   simp only [Bool.and_eq_true, Bool.not_eq_true', Bool.or_eq_false_iff, Bool.not_eq_false'] at h1
   exact h1.1.2
  unfold colourB at hc
  rw [Bool.and_eq_true] at hc
  have := of_decide_eq_true hc.1
  omega
 ·unfold boxOf boxRQ
  split
  ·exact Nat.zero_le _
  ·split
   ·exact Nat.zero_le _
   ·split
    ·show (1 : Nat) ≤ _; omega
    ·split
     ·exact Nat.zero_le _
     ·split
      ·exact Nat.zero_le _
      ·show (letter _).size ≤ _
       unfold letter
       rw [ByteArray.size_extract]
       have : (⟨#[97, 98, 99, 100, 101, 102, 103, 104]⟩ : ByteArray).size = 8 := rfl
       rw [this]
       omega
theorem okL_of' {l : List S33} (hl : l.length ≤ 1000000) (h6 : ∀ x ∈ l, x.f6.length ≤ 17592186044415) : okL l = true := by
 unfold okL
 rw [Bool.and_eq_true]
 exact ⟨decide_eq_true (by omega), List.all_eq_true.2 (fun x hx => decide_eq_true (by have := h6 x hx; omega))⟩
theorem rest_ev' (l : List S33) : Ev (fun k => fill_rest.f k l) (restL l) := Ev.of (fun k => fill_rest.mono l k) (frest_f l)
theorem cut_lt (R : List S33) (h : S33) (i : Nat) (p : Int) (hR : 0 < R.length) : (ansCut R h i p).2.1.length < R.length := by
 unfold ansCut
 have h1 := restL_le (R.drop (begA R i + p.toNat + 1))
 rw [List.length_drop] at h1
 show (restL (R.drop (begA R i + p.toNat + 1))).length < _
 omega
theorem at_lt (R : List S33) (len : Int) (h : S33) (i : Nat) (hi : i < R.length) (hb : begA R i ≠ R.length) : (ansAt R len h i).2.1.length < R.length := by
 unfold ansAt
 split
 ·exact cut_lt R h i _ (by omega)
 ·split
  ·have h1 := restL_le (R.drop i)
   rw [List.length_drop] at h1
   show (restL (R.drop i)).length < _
   omega
  ·split
   ·exact cut_lt R h i _ (by omega)
   ·have h1 := restL_le (R.drop (stopA R i))
    rw [List.length_drop] at h1
    have h2 := stopA_gt hi hb
    show (restL (R.drop (stopA R i))).length < _
    omega
theorem go_lt (R : List S33) (len : Int) (h : S33) (hR : 0 < R.length) : ∀ f i, (takeGo R len h f i).2.1.length < R.length
 | 0, i => hR
 | f + 1, i => by
  unfold takeGo
  split
  ·rename_i hi
   split
   ·exact hR
   ·rename_i hb
    split
    ·exact go_lt R len h hR f _
    ·exact at_lt R len h i hi hb
  ·exact hR
theorem takeL_lt' (l : List S33) (len : Int) (h : S33) (hl : 0 < (restL l).length) : (takeL l len h).2.1.length < l.length := by
 have h1 := go_lt (restL l) len h hl ((restL l).length + 1) 0
 have h2 := restL_le l
 unfold takeL
 omega
/-- The lines of a row. -/
def breakGo : Nat → List S33 → Int → Int → S33 → List (List S33)
 | 0, _, _, _, _ => []
 | f + 1, l, a1, a2, h => if 0 < (restL l).length then (takeL l a1 h).1 :: breakGo f (takeL l a1 h).2.1 a2 a2 h else []
theorem fill_Break_l (h : S33) (a2 : Int) (hh : Fit h) : ∀ (f : Nat) (l : List S33) (acc : List (List S33)) (len : Int), l.length < f → l.length ≤ 5000 → acc.length + l.length ≤ 100000 → (∀ x ∈ l, Fit x) →
  Ev (fun k => fill_Break.l0 k l a2 acc len h.f0 h.f1 h.f2 h.f3 h.f4 h.f5 h.f6) (acc ++ breakGo f l len a2 h, 0)
 | 0, l, acc, len, hf, hl, ha, hx => by omega
 | f + 1, l, acc, len, hf, hl, ha, hx => by
  show Ev _ (acc ++ (if 0 < (restL l).length then (takeL l len h).1 :: breakGo f (takeL l len h).2.1 a2 a2 h else []), 0)
  by_cases hr : 0 < (restL l).length
  ·rw [if_pos hr]
   have hlt := takeL_lt' l len h hr
   obtain ⟨q1, q2, p3, p4⟩ := parts_take l len h
   have ht : fill_take.f l len h.f0 h.f1 h.f2 h.f3 h.f4 h.f5 h.f6 = some (takeL l len h) := if_pos (okL_of' (by omega) (fun x h => (hx x h).1))
   have ho : fill_own.f (takeL l len h).1 = some (takeL l len h).1 := if_pos (okL_of' (by omega) (fun x h0 => by
    rcases q2 x h0 with e | rfl
    ·exact (hx x e).1
    ·exact hh.1))
   have ih := fill_Break_l h a2 hh f (takeL l len h).2.1 (acc ++ [(takeL l len h).1]) a2 (by omega) (by omega) (by rw [List.length_append, List.length_singleton]; omega) (fun x h0 => hx x (p4 x h0))
   rw [List.append_assoc] at ih
   refine Ev.step (fun k => by rw [fill_Break.l0]) (Ev.bind (rest_ev' l) ?_)
   refine ev_pos (by omega) (ev_known ht (ev_known ho ?_))
   exact ev_pos (by omega) ih
  ·rw [if_neg hr, List.append_nil]
   refine Ev.step (fun k => by rw [fill_Break.l0]) (Ev.bind (rest_ev' l) ?_)
   exact ev_neg (by omega) (ev_now rfl)
theorem fill_Break_ok (l : List S33) (a1 a2 : Int) (h : S33) (hl : l.length ≤ 5000) (hx : ∀ x ∈ l, Fit x) (hh : Fit h) (hb : hyphB h = true) (hv : l.all validB = true) (h1 : 0 ≤ a1 ∧ a1 ≤ 10000000) (h2 : 0 ≤ a2 ∧ a2 ≤ 10000000) :
  Ev (fun k => fill_Break.f k l a1 a2 h.f0 h.f1 h.f2 h.f3 h.f4 h.f5 h.f6) (breakGo (l.length + 1) l a1 a2 h, 0) := by
 have hc : fill_check.f l [a1, a2] = some (checkI l [a1, a2]) := rfl
 have hfar : allI farL [a1, a2] = true := by
  unfold allI farL
  rw [List.all_cons, List.all_cons, List.all_nil, decide_eq_false (by omega : ¬ a1 < 0), decide_eq_false (by omega : ¬ 10000000 < a1), decide_eq_false (by omega : ¬ a2 < 0), decide_eq_false (by omega : ¬ 10000000 < a2)]
  rfl
 have hck : checkI l [a1, a2] = 0 := by
  unfold checkI
  rw [hv, hfar]
  show (if (false : Bool) = true then _ else _) = _
  rw [if_neg (by decide), if_neg (by omega)]
 refine ev_known (fill_hyph h) ?_
 rw [hb]
 refine ev_pos rfl (ev_known hc ?_)
 rw [hck]
 have hgo := fill_Break_l h a2 hh (l.length + 1) l [] a1 (by omega) hl (by rw [List.length_nil]; omega) hx
 exact ev_pos rfl hgo
theorem breakGo_len (h : S33) : ∀ (f : Nat) (l : List S33) (a1 a2 : Int), (breakGo f l a1 a2 h).length ≤ l.length
 | 0, l, a1, a2 => Nat.zero_le _
 | f + 1, l, a1, a2 => by
  unfold breakGo
  split
  ·rename_i hr
   have := breakGo_len h f (takeL l a1 h).2.1 a2 a2
   have := takeL_lt' l a1 h hr
   rw [List.length_cons]
   omega
  ·exact Nat.zero_le _
/-- Every line of a row is a line of one of its rests. -/
theorem breakGo_all (h : S33) (C : S33 → Prop) (Q : List S33 → Prop) : ∀ (f : Nat) (l : List S33) (a1 a2 : Int), (∀ x ∈ l, C x) → (∀ l', l'.length ≤ l.length → (∀ x ∈ l', C x) → Q (takeL l' a1 h).1 ∧ Q (takeL l' a2 h).1) → ∀ y ∈ breakGo f l a1 a2 h, Q y
 | 0, l, a1, a2, hC, hQ, y, hy => by cases hy
 | f + 1, l, a1, a2, hC, hQ, y, hy => by
  unfold breakGo at hy
  split at hy
  ·obtain ⟨-, -, p3, p4⟩ := parts_take l a1 h
   rcases List.mem_cons.1 hy with rfl | hy
   ·exact (hQ l (Nat.le_refl _) hC).1
   ·exact breakGo_all h C Q f _ a2 a2 (fun x hx => hC x (p4 x hx)) (fun l' hl' hC' => ⟨(hQ l' (by omega) hC').2, (hQ l' (by omega) hC').2⟩) y hy
  ·cases hy
end Go.Proofs.YteadghhmoggjnaaB
end
