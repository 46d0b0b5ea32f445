import Derived.KernelRfl
import Derived.Test.YteadghhmoggjnaaFS17
import Derived.Test.YteadghhmoggjnaaFS10
import Derived.Test.YteadghhmoggjnaaFS21
import Derived.Test.YteadghhmoggjnaaFS23
import Derived.Test.YteadghhmoggjnaaFS18
import Derived.Test.YteadghhmoggjnaaFE1
section
/- Plain laws of the printed functions of chapter 11: Width, Same, Row. -/
set_option linter.unusedVariables false
set_option linter.unusedSimpArgs false
namespace Go.Proofs.YteadghhmoggjnaaB
open Go.RowKit
open Go.Proofs.Yteadghhmoggjnaa.Q
open Go.Proofs.YteadghhmoggjnaaW.PrintWords Go.Proofs.YteadghhmoggjnaaW.PrintLast
set_option maxHeartbeats 800000

theorem rdT_at {l : List S33} {j : Nat} {x : S33} (h : l[j]? = some x) : rd_T33 l (j : Int) = x := by
  unfold rd_T33
  rw [Int.toNat_natCast, List.getD_eq_getElem?_getD, h]
  rfl
theorem w64_succ {j : Nat} (h : j ≤ 1000000000000) : wrap64 ((j : Int) + 1) = ((j + 1 : Nat) : Int) := by
  unfold wrap64
  omega
theorem ref_width_l (l : List S33) (hl : l.length ≤ 1000000000000) : ∀ (k j : Nat), j ≤ l.length → l.length < k + j → frisketref08_Width.l0 k l (widthW (l.take j)) (j : Int) = some (widthW l)
  | 0, j, h1, h2 => by omega
  | k + 1, j, h1, h2 => by
    unfold frisketref08_Width.l0
    by_cases hj : j < l.length
    · rw [if_pos (by omega), if_pos (by omega)]
      obtain ⟨x, hx⟩ : ∃ x, l[j]? = some x := ⟨_, List.getElem?_eq_getElem hj⟩
      rw [rdT_at hx, w64_succ (by omega)]
      have ih := ref_width_l l hl k (j + 1) (by omega) (by omega)
      by_cases h3 : x.f0 = 3
      · rw [if_pos h3]
        rw [width_no hx (by simp [counts, h3])] at ih
        exact ih
      · rw [if_neg h3]
        by_cases h5 : x.f0 = 5
        · rw [if_pos h5]
          rw [width_no hx (by simp [counts, h5])] at ih
          exact ih
        · rw [if_neg h5]
          by_cases h0 : x.f0 ≥ 0
          · rw [if_pos h0]
            by_cases h6 : x.f0 ≤ 6
            · rw [if_pos h6]
              have hc : counts x = true := by
                have : x.f0 = 0 ∨ x.f0 = 1 ∨ x.f0 = 2 ∨ x.f0 = 4 ∨ x.f0 = 6 := by omega
                unfold counts
                rcases this with h | h | h | h | h <;> simp [h]
              rw [width_yes hx hc] at ih
              exact ih
            · rw [if_neg h6]
              rw [width_no hx (by unfold counts; simp; omega)] at ih
              exact ih
          · rw [if_neg h0]
            rw [width_no hx (by unfold counts; simp; omega)] at ih
            exact ih
    · rw [if_neg (by omega), List.take_of_length_le (by omega)]
theorem ref_width (l : List S33) (hl : l.length ≤ 1000000000000) {k : Nat} (hk : l.length < k) : frisketref08_Width.f k l = some (widthW l) := ref_width_l l hl k 0 (Nat.zero_le _) hk
theorem samebox_l (x : S33) (hx : x.f6.length ≤ 1000000000000) : ∀ (k j : Nat), j ≤ x.f6.length → x.f6.length < k + j → frisketref08_SameBox.l0 k (j : Int) x.f0 x.f1 x.f2 x.f3 x.f4 x.f5 x.f6 x.f0 x.f1 x.f2 x.f3 x.f4 x.f5 x.f6 = some true
  | 0, j, h1, h2 => by omega
  | k + 1, j, h1, h2 => by
    unfold frisketref08_SameBox.l0
    by_cases hj : j < x.f6.length
    · rw [if_pos (by omega), if_pos (by omega), if_pos (by omega), if_pos rfl, w64_succ (by omega)]
      exact samebox_l x hx k (j + 1) (by omega) (by omega)
    · rw [if_neg (by omega)]
theorem samebox (x : S33) (hx : x.f6.length ≤ 1000000000000) {k : Nat} (hk : x.f6.length + 1 < k) : frisketref08_SameBox.f k x.f0 x.f1 x.f2 x.f3 x.f4 x.f5 x.f6 x.f0 x.f1 x.f2 x.f3 x.f4 x.f5 x.f6 = some true := by
  unfold frisketref08_SameBox.f
  rw [if_pos rfl, if_pos rfl, if_pos rfl, if_pos rfl, if_pos rfl, if_pos rfl]
  obtain ⟨k, rfl⟩ : ∃ m, k = m + 1 := ⟨k - 1, by omega⟩
  have e : ((x.f6.length : Int) != (x.f6.length : Int)) = false := by simp
  rw [e]
  rw [frisketref08_SameBox.j0, if_neg (by decide)]
  exact samebox_l x hx k 0 (Nat.zero_le _) (by omega)
theorem same_l (l : List S33) (M : Nat) (hM : M ≤ 1000000000000) (hl : l.length ≤ 1000000000000) (h6 : ∀ x ∈ l, x.f6.length ≤ M) : ∀ (k j : Nat), j ≤ l.length → l.length + M + 1 < k + j → frisketref08_Same.l0 k l l (j : Int) = some true
  | 0, j, h1, h2 => by omega
  | k + 1, j, h1, h2 => by
    unfold frisketref08_Same.l0
    by_cases hj : j < l.length
    · rw [if_pos (by omega), if_pos (by omega), if_pos (by omega)]
      obtain ⟨x, hx⟩ : ∃ x, l[j]? = some x := ⟨_, List.getElem?_eq_getElem hj⟩
      have hxm := h6 x (List.mem_of_getElem? hx)
      rw [rdT_at hx, samebox x (by omega) (by omega), w64_succ (by omega)]
      rw [Option.bind_some, if_pos rfl]
      exact same_l l M hM hl h6 k (j + 1) (by omega) (by omega)
    · rw [if_neg (by omega)]
theorem same_self (l : List S33) (M : Nat) (hM : M ≤ 1000000000000) (hl : l.length ≤ 1000000000000) (h6 : ∀ x ∈ l, x.f6.length ≤ M) {k : Nat} (hk : l.length + M + 1 < k) : frisketref08_Same.f k l l = some true := by
  unfold frisketref08_Same.f
  rw [if_pos rfl]
  exact same_l l M hM hl h6 k 0 (Nat.zero_le _) hk

/-! ### Row -/
def kOf (n : Int) : Int := wrap64 (Int.tmod (IntKind.u64.wrap n) 100000)
theorem kOf_range (n : Int) : 0 ≤ kOf n ∧ kOf n < 100000 := by
  unfold kOf
  rw [IntKind.wrap_u64, Int.tmod_eq_emod_of_nonneg (by omega)]
  unfold wrap64
  omega
/-- One letter. -/
def letter (c : Int) : ByteArray := (⟨#[97, 98, 99, 100, 101, 102, 103, 104]⟩ : ByteArray).extract c.toNat (wrap64 (c + 1)).toNat
def boxRQ (r q : Int) : S33 :=
  if r = 0 ∨ r = 1 ∨ r = 2 then ⟨1, Int.tmod q 20, 0, 10, ⟨#[]⟩, ⟨#[]⟩, []⟩
  else if r = 3 ∨ r = 4 then ⟨5, 0, 0, 0, ⟨#[]⟩, ⟨#[]⟩, []⟩
  else if r = 5 then ⟨1, 5, 0, 10, ⟨#[126]⟩, ⟨#[]⟩, []⟩
  else if r = 6 then ⟨2, wrap64 (Int.tmod q 31 - 15), 0, 0, ⟨#[]⟩, ⟨#[]⟩, []⟩
  else if r = 7 then ⟨6, Int.tmod q 10, 0, 0, ⟨#[]⟩, ⟨#[]⟩, []⟩
  else ⟨0, wrap64 (5 + Int.tmod q 12), 0, 10, letter (Int.tmod q 8), ⟨#[]⟩, []⟩
def boxOf (n : Int) : S33 := boxRQ (Int.tmod (kOf n) 12) (wrap64 (Int.tdiv (kOf n) 12))
def rowL (l : List Int) : List S33 := (l.take 120).map boxOf
theorem rd_at {l : List Int} {j : Nat} {x : Int} (h : l[j]? = some x) : rd l (j : Int) = x := by
  unfold rd
  rw [Int.toNat_natCast, List.getD_eq_getElem?_getD, h]
  rfl
theorem row_step (l : List Int) {j : Nat} {n : Int} (h : l[j]? = some n) : (l.take (j + 1)).map boxOf = (l.take j).map boxOf ++ [boxOf n] := by
  obtain ⟨hj, rfl⟩ := List.getElem?_eq_some_iff.1 h
  rw [List.take_succ_eq_append_getElem hj, List.map_append]
  rfl
theorem row_one (l : List Int) (acc : List S33) (j kk r : Int) (R : List S33) (k : Nat) (hr0 : 0 ≤ r) (hr1 : r < 12) (hlen : acc.length < 1599289640401)
    (hc0 : 0 ≤ Int.tmod (wrap64 (Int.tdiv kk 12)) 8) (hc1 : Int.tmod (wrap64 (Int.tdiv kk 12)) 8 ≤ wrap64 (Int.tmod (wrap64 (Int.tdiv kk 12)) 8 + 1)) (hc2 : wrap64 (Int.tmod (wrap64 (Int.tdiv kk 12)) 8 + 1) ≤ 8)
    (ih1 : frisketlaw11_Row.l0 (k + 1) l (acc ++ [boxRQ r (wrap64 (Int.tdiv kk 12))]) (wrap64 (j + 1)) = some R) (ih2 : frisketlaw11_Row.l0 k l (acc ++ [boxRQ r (wrap64 (Int.tdiv kk 12))]) (wrap64 (j + 1)) = some R) :
    (if r = 0 then frisketlaw11_Row.j2 (k + 2) l acc j kk r (r == 0) else if r = 1 then frisketlaw11_Row.j2 (k + 2) l acc j kk r (r == 1) else frisketlaw11_Row.j2 (k + 2) l acc j kk r (r == 2)) = some R := by
  have : r = 0 ∨ r = 1 ∨ r = 2 ∨ r = 3 ∨ r = 4 ∨ r = 5 ∨ r = 6 ∨ r = 7 ∨ r = 8 ∨ r = 9 ∨ r = 10 ∨ r = 11 := by omega
  rcases this with rfl | rfl | rfl | rfl | rfl | rfl | rfl | rfl | rfl | rfl | rfl | rfl
  · rw [if_pos rfl]; unfold frisketlaw11_Row.j2; rw [if_pos (by decide)]
    show (if acc.length < 1599289640401 then _ else none) = _
    rw [if_pos hlen]; exact ih1
  · rw [if_neg (by decide), if_pos rfl]; unfold frisketlaw11_Row.j2; rw [if_pos (by decide)]
    show (if acc.length < 1599289640401 then _ else none) = _
    rw [if_pos hlen]; exact ih1
  · rw [if_neg (by decide), if_neg (by decide)]; unfold frisketlaw11_Row.j2; rw [if_pos (by decide)]
    show (if acc.length < 1599289640401 then _ else none) = _
    rw [if_pos hlen]; exact ih1
  · rw [if_neg (by decide), if_neg (by decide)]; unfold frisketlaw11_Row.j2; rw [if_neg (by decide), if_pos rfl]; unfold frisketlaw11_Row.j3; rw [if_pos (by decide), if_pos hlen]; exact ih2
  · rw [if_neg (by decide), if_neg (by decide)]; unfold frisketlaw11_Row.j2; rw [if_neg (by decide), if_neg (by decide)]; unfold frisketlaw11_Row.j3; rw [if_pos (by decide), if_pos hlen]; exact ih2
  · rw [if_neg (by decide), if_neg (by decide)]; unfold frisketlaw11_Row.j2; rw [if_neg (by decide), if_neg (by decide)]; unfold frisketlaw11_Row.j3; rw [if_neg (by decide), if_pos rfl, if_pos hlen]; exact ih2
  · rw [if_neg (by decide), if_neg (by decide)]; unfold frisketlaw11_Row.j2; rw [if_neg (by decide), if_neg (by decide)]; unfold frisketlaw11_Row.j3; rw [if_neg (by decide), if_neg (by decide), if_pos rfl, if_pos hlen]; exact ih2
  · rw [if_neg (by decide), if_neg (by decide)]; unfold frisketlaw11_Row.j2; rw [if_neg (by decide), if_neg (by decide)]; unfold frisketlaw11_Row.j3; rw [if_neg (by decide), if_neg (by decide), if_neg (by decide), if_pos rfl, if_pos hlen]; exact ih2
  all_goals (rw [if_neg (by decide), if_neg (by decide)]; unfold frisketlaw11_Row.j2; rw [if_neg (by decide), if_neg (by decide)]; unfold frisketlaw11_Row.j3; rw [if_neg (by decide), if_neg (by decide), if_neg (by decide), if_neg (by decide), if_pos hc0, if_pos hc1, if_pos hc2, if_pos hlen]; exact ih2)
theorem row_l (l : List Int) : ∀ (m j k : Nat), j ≤ l.length → j ≤ 120 → 120 = m + j → 4 * m + 2 ≤ k → frisketlaw11_Row.l0 k l ((l.take j).map boxOf) (j : Int) = some (rowL l)
  | m, j, 0, _, _, _, h => by omega
  | m, j, 1, _, _, _, h => by omega
  | m, j, k + 2, h1, h2, h3, h4 => by
    unfold frisketlaw11_Row.l0
    by_cases hj : j < l.length
    · rw [if_pos (by omega)]
      by_cases hj2 : j < 120
      · rw [show decide ((j : Int) < 120) = true from decide_eq_true (by omega)]
        unfold frisketlaw11_Row.j1
        rw [if_pos rfl, if_pos (by omega), if_pos (by omega)]
        obtain ⟨n, hn⟩ : ∃ n, l[j]? = some n := ⟨_, List.getElem?_eq_getElem hj⟩
        rw [rd_at hn, show wrap64 (Int.tmod (IntKind.u64.wrap n) 100000) = kOf n from rfl]
        obtain ⟨m, rfl⟩ : ∃ m', m = m' + 1 := ⟨m - 1, by omega⟩
        obtain ⟨k, rfl⟩ : ∃ k', k = k' + 4 := ⟨k - 4, by omega⟩
        have hk := kOf_range n
        have ih := row_l l m (j + 1) (k + 2) (by omega) (by omega) (by omega) (by omega)
        have ih3 := row_l l m (j + 1) (k + 3) (by omega) (by omega) (by omega) (by omega)
        rw [row_step l hn] at ih ih3
        have hlen : ((l.take j).map boxOf).length < 1599289640401 := by rw [List.length_map, List.length_take]; omega
        have h12 : 0 ≤ Int.tmod (kOf n) 12 ∧ Int.tmod (kOf n) 12 < 12 := by rw [Int.tmod_eq_emod_of_nonneg hk.1]; omega
        have hq0 : 0 ≤ wrap64 (Int.tdiv (kOf n) 12) ∧ wrap64 (Int.tdiv (kOf n) 12) < 100000 := by rw [Int.tdiv_eq_ediv_of_nonneg hk.1]; unfold wrap64; omega
        have hc : 0 ≤ Int.tmod (wrap64 (Int.tdiv (kOf n) 12)) 8 ∧ Int.tmod (wrap64 (Int.tdiv (kOf n) 12)) 8 < 8 := by rw [Int.tmod_eq_emod_of_nonneg hq0.1]; omega
        refine row_one l _ _ _ _ (rowL l) (k + 2) h12.1 h12.2 hlen hc.1 (by have h := hc; revert h; generalize Int.tmod (wrap64 (Int.tdiv (kOf n) 12)) 8 = c; intro h; unfold wrap64; omega) (by have h := hc; revert h; generalize Int.tmod (wrap64 (Int.tdiv (kOf n) 12)) 8 = c; intro h; unfold wrap64; omega) ?_ ?_
        · rw [w64_succ (by omega)]; exact ih3
        · rw [w64_succ (by omega)]; exact ih
      · rw [show decide ((j : Int) < 120) = false from decide_eq_false (by omega)]
        unfold frisketlaw11_Row.j1
        rw [if_neg (by decide)]
        unfold rowL
        rw [show j = 120 by omega]
    · rw [if_neg (by omega)]
      unfold frisketlaw11_Row.j1
      rw [if_neg (by decide)]
      unfold rowL
      rw [List.take_of_length_le (by omega), List.take_of_length_le (by omega)]
theorem row_f (l : List Int) {k : Nat} (hk : 482 ≤ k) : frisketlaw11_Row.f k l = some (rowL l) := row_l l 120 0 k (Nat.zero_le _) (by omega) rfl hk
theorem rowL_len (l : List Int) : (rowL l).length ≤ 120 := by
  unfold rowL
  rw [List.length_map, List.length_take]
  omega
theorem letter_all : (List.range 8).all (fun (c : Nat) => namedB (letter (c : Int))) = true := by kernel_rfl
theorem letter_ok (c : Int) (h0 : 0 ≤ c) (h1 : c < 8) : namedB (letter c) = true := by
  have h := List.all_eq_true.1 letter_all c.toNat (List.mem_range.2 (by omega))
  rw [Int.toNat_of_nonneg h0] at h
  exact h
/-- What every box of numbers is. -/
theorem boxOf_ok (n : Int) : validB (boxOf n) = true ∧ (boxOf n).f6 = [] ∧ (-15 ≤ (boxOf n).f1 ∧ (boxOf n).f1 ≤ 20) := by
  have hk := kOf_range n
  have hr : 0 ≤ Int.tmod (kOf n) 12 ∧ Int.tmod (kOf n) 12 < 12 := by rw [Int.tmod_eq_emod_of_nonneg hk.1]; omega
  have hq : 0 ≤ wrap64 (Int.tdiv (kOf n) 12) ∧ wrap64 (Int.tdiv (kOf n) 12) < 100000 := by rw [Int.tdiv_eq_ediv_of_nonneg hk.1]; unfold wrap64; omega
  have h20 : 0 ≤ Int.tmod (wrap64 (Int.tdiv (kOf n) 12)) 20 ∧ Int.tmod (wrap64 (Int.tdiv (kOf n) 12)) 20 < 20 := by rw [Int.tmod_eq_emod_of_nonneg hq.1]; omega
  have h31 : 0 ≤ Int.tmod (wrap64 (Int.tdiv (kOf n) 12)) 31 ∧ Int.tmod (wrap64 (Int.tdiv (kOf n) 12)) 31 < 31 := by rw [Int.tmod_eq_emod_of_nonneg hq.1]; omega
  have h10 : 0 ≤ Int.tmod (wrap64 (Int.tdiv (kOf n) 12)) 10 ∧ Int.tmod (wrap64 (Int.tdiv (kOf n) 12)) 10 < 10 := by rw [Int.tmod_eq_emod_of_nonneg hq.1]; omega
  have h12 : 0 ≤ Int.tmod (wrap64 (Int.tdiv (kOf n) 12)) 12 ∧ Int.tmod (wrap64 (Int.tdiv (kOf n) 12)) 12 < 12 := by rw [Int.tmod_eq_emod_of_nonneg hq.1]; omega
  have h8 : 0 ≤ Int.tmod (wrap64 (Int.tdiv (kOf n) 12)) 8 ∧ Int.tmod (wrap64 (Int.tdiv (kOf n) 12)) 8 < 8 := by rw [Int.tmod_eq_emod_of_nonneg hq.1]; omega
  have hcol : colourB ⟨#[]⟩ = true := by kernel_rfl
  unfold boxOf
  generalize Int.tmod (kOf n) 12 = r at *
  generalize wrap64 (Int.tdiv (kOf n) 12) = q at *
  have hv : ∀ x : S33, -15 ≤ x.f1 → x.f1 ≤ 20 → x.f2 = 0 → 0 ≤ x.f3 → x.f5 = ⟨#[]⟩ → validB x = (if x.f0 = 0 then namedB x.f4 && (x.f6.length == 0)
   else if x.f0 = 1 then ((x.f4.toList == []) || (x.f4.toList == [126])) && (x.f5.toList == []) && (x.f6.length == 0)
   else if x.f0 = 4 then (x.f2 == 0) && (x.f3 == 0) && (x.f4.size == 1) && strokeB x.f4 && decide (x.f6.length ≤ 40) && allI farV x.f6
   else if x.f0 = 5 then bareB x && (x.f4.toList == []) && (x.f1 == 0)
   else if x.f0 = 2 ∨ x.f0 = 3 ∨ x.f0 = 6 then bareB x && (x.f4.toList == [])
   else false) := fun x a1 a2 a3 a4 a5 => by
    unfold validB
    rw [decide_eq_false (by omega : ¬ x.f1 < -1000000), decide_eq_false (by omega : ¬ 1000000 < x.f1), decide_eq_false (by omega : ¬ x.f2 < 0), decide_eq_false (by omega : ¬ x.f3 < 0), a5, hcol]
    rfl
  have hmt : (⟨#[]⟩ : ByteArray).toList = [] := by kernel_rfl
  have htl : (⟨#[126]⟩ : ByteArray).toList = [126] := by kernel_rfl
  unfold boxRQ
  split
  · refine ⟨?_, rfl, by dsimp only; omega⟩
    rw [hv _ (by dsimp only; omega) (by dsimp only; omega) rfl (by dsimp only; omega) rfl]
    dsimp only
    rw [hmt]
    rfl
  · split
    · refine ⟨by kernel_rfl, rfl, by decide⟩
    · split
      · refine ⟨by kernel_rfl, rfl, by decide⟩
      · split
        · have e : -15 ≤ wrap64 (Int.tmod q 31 - 15) ∧ wrap64 (Int.tmod q 31 - 15) ≤ 20 := by unfold wrap64; omega
          refine ⟨?_, rfl, e⟩
          rw [hv _ e.1 e.2 rfl (by dsimp only; omega) rfl]
          dsimp only
          unfold bareB
          dsimp only
          rw [hmt]
          rfl
        · split
          · refine ⟨?_, rfl, by dsimp only; omega⟩
            rw [hv _ (by dsimp only; omega) (by dsimp only; omega) rfl (by dsimp only; omega) rfl]
            dsimp only
            unfold bareB
            dsimp only
            rw [hmt]
            rfl
          · have e : -15 ≤ wrap64 (5 + Int.tmod q 12) ∧ wrap64 (5 + Int.tmod q 12) ≤ 20 := by unfold wrap64; omega
            refine ⟨?_, rfl, e⟩
            rw [hv _ e.1 e.2 rfl (by dsimp only; omega) rfl]
            dsimp only
            rw [letter_ok _ h8.1 h8.2]
            rfl
end Go.Proofs.YteadghhmoggjnaaB
end
section
/- Plain laws: how broad a row of numbers is; Adjust at it. -/
set_option linter.unusedVariables false
namespace Go.Proofs.YteadghhmoggjnaaB
open Go.RowKit
open Go.Proofs.Yteadghhmoggjnaa.Q (S33)
open Go.Proofs.YteadghhmoggjnaaW.PrintWords Go.Proofs.YteadghhmoggjnaaW.PrintLast

theorem width_bound : ∀ (l : List S33) (a : Int), (∀ x ∈ l, -20 ≤ x.f1 ∧ x.f1 ≤ 20) → -1000000 ≤ a - 20 * (l.length : Int) → a + 20 * (l.length : Int) ≤ 1000000 →
    a - 20 * (l.length : Int) ≤ l.foldl widthStep a ∧ l.foldl widthStep a ≤ a + 20 * (l.length : Int)
  | [], a, _, _, _ => by simp
  | x :: r, a, hx, h1, h2 => by
    have hx0 := hx x List.mem_cons_self
    rw [List.length_cons] at h1 h2 ⊢
    rw [List.foldl_cons]
    have hs : widthStep a x = a ∨ widthStep a x = a + x.f1 := by
      unfold widthStep
      split
      · right
        unfold wrap64
        omega
      · exact .inl rfl
    have ih := width_bound r (widthStep a x) (fun y hy => hx y (List.mem_cons_of_mem _ hy)) (by rcases hs with h | h <;> omega) (by rcases hs with h | h <;> omega)
    rcases hs with h | h <;> omega
theorem rowL_mem {l : List Int} {x : S33} (h : x ∈ rowL l) : ∃ n, x = boxOf n := by
  unfold rowL at h
  obtain ⟨n, -, rfl⟩ := List.mem_map.1 h
  exact ⟨n, rfl⟩
theorem rowL_width (l : List Int) : -2400 ≤ widthW (rowL l) ∧ widthW (rowL l) ≤ 2400 := by
  have hl := rowL_len l
  have h := width_bound (rowL l) 0 (fun x hx => by obtain ⟨n, rfl⟩ := rowL_mem hx; have := (boxOf_ok n).2.2; omega) (by omega) (by omega)
  have e : widthW (rowL l) = (rowL l).foldl widthStep 0 := rfl
  rw [e]
  omega
theorem rowL_valid (l : List Int) : (rowL l).all validB = true := List.all_eq_true.2 (fun x hx => by obtain ⟨n, rfl⟩ := rowL_mem hx; exact (boxOf_ok n).1)
theorem rowL_f6 (l : List Int) : ∀ x ∈ rowL l, x.f6.length ≤ 0 := fun x hx => by obtain ⟨n, rfl⟩ := rowL_mem hx; rw [(boxOf_ok n).2.1]; exact Nat.le_refl _
theorem rowL_check (l : List Int) (n : Int) (h0 : 0 ≤ n) (h1 : n ≤ 10000000) : checkI (rowL l) [n] = 0 := by
  unfold checkI
  have hf : allI farL [n] = true := by
    unfold allI farL
    rw [List.all_cons, List.all_nil, decide_eq_false (by omega : ¬ n < 0), decide_eq_false (by omega : ¬ 10000000 < n)]
    rfl
  rw [rowL_valid, hf]
  have := rowL_len l
  rw [if_neg (by decide), if_neg (by omega)]
theorem rowL_adj (l : List Int) (n mode : Int) (odd : Bool) (h0 : 0 ≤ n) (h1 : n ≤ 10000000) (hm : mode = 108 ∨ mode = 114 ∨ mode = 99) : adjL (rowL l) n mode odd = (rowL l, wayOf mode (n - widthW (rowL l)), 0) := by
  unfold adjL
  rw [if_neg (by rw [rowL_check l n h0 h1]; omega), if_neg (by rw [rowL_check l n h0 h1]; omega), if_neg (by omega)]
theorem lenOf (a : Int) : 0 ≤ wrap64 (Int.tmod (IntKind.u64.wrap a) 2000) ∧ wrap64 (Int.tmod (IntKind.u64.wrap a) 2000) < 2000 := by
  rw [IntKind.wrap_u64, Int.tmod_eq_emod_of_nonneg (by omega)]
  unfold wrap64
  omega
end Go.Proofs.YteadghhmoggjnaaB
end
section
/- Plain law: the document's Growing is growL. -/
set_option linter.unusedVariables false
set_option linter.unusedSimpArgs false
namespace Go.Proofs.YteadghhmoggjnaaB
open Go.RowKit
open Go.Proofs.Yteadghhmoggjnaa.Q
open Go.Proofs.YteadghhmoggjnaaW.PrintWords Go.Proofs.YteadghhmoggjnaaW.PrintLast
set_option maxHeartbeats 800000

def befB (l : List S33) (i j : Nat) : Bool := !(noneB solidG ((l.take j).take i))
def aftB (l : List S33) (i j : Nat) : Bool := !(noneB solidG ((l.take j).drop (i + 1)))
theorem none_snoc (p : S33 → Bool) (l : List S33) (x : S33) : noneB p (l ++ [x]) = (noneB p l && !(p x)) := by
  unfold noneB
  rw [List.all_append, List.all_cons, List.all_nil, Bool.and_true]
theorem befB_step {l : List S33} {i j : Nat} {x : S33} (h : l[j]? = some x) : befB l i (j + 1) = (befB l i j || (solidG x && decide (j < i))) := by
  obtain ⟨hj, rfl⟩ := List.getElem?_eq_some_iff.1 h
  unfold befB
  rw [List.take_take, List.take_take]
  by_cases hi : j < i
  · rw [Nat.min_eq_right (by omega), Nat.min_eq_right (by omega), List.take_succ_eq_append_getElem hj, none_snoc, decide_eq_true hi]
    cases noneB solidG (l.take j) <;> cases solidG l[j] <;> rfl
  · rw [Nat.min_eq_left (by omega), Nat.min_eq_left (by omega), decide_eq_false hi]
    simp
theorem aftB_step {l : List S33} {i j : Nat} {x : S33} (h : l[j]? = some x) : aftB l i (j + 1) = (aftB l i j || (solidG x && decide (j > i))) := by
  obtain ⟨hj, rfl⟩ := List.getElem?_eq_some_iff.1 h
  unfold aftB
  have hl : (l.take j).length = j := by rw [List.length_take]; omega
  rw [List.take_succ_eq_append_getElem hj]
  by_cases hi : j > i
  · rw [List.drop_append_of_le_length (by omega), none_snoc, decide_eq_true hi]
    cases noneB solidG ((l.take j).drop (i + 1)) <;> cases solidG l[j] <;> rfl
  · rw [List.drop_eq_nil_of_le (by rw [List.length_append, hl]; simp; omega), List.drop_eq_nil_of_le (by omega), decide_eq_false hi]
    simp
theorem solid_f (x : S33) : frisketref11_solid.f x.f0 x.f1 x.f2 x.f3 x.f4 x.f5 x.f6 = some (solidG x) := by
  unfold frisketref11_solid.f solidG
  by_cases h : x.f0 = 1
  · rw [if_pos h, h]; rfl
  · rw [if_neg h]
    have : (x.f0 != 1) = true := bne_iff_ne.2 h
    rw [this, Bool.true_and]
theorem grow_l1 (l : List S33) (hl : l.length ≤ 1000000) (acc : List Int) (hacc : acc.length < 17592186044416) (i : Nat) (R : Option (List Int)) (k0 : Nat)
    (hR : frisketref11_Growing.l0 k0 l (if (befB l i l.length && aftB l i l.length) = true then acc ++ [(i : Int)] else acc) (wrap64 ((i : Int) + 1)) = R) :
    ∀ (d j : Nat), j + d = l.length → frisketref11_Growing.l1 (k0 + 1 + d) l acc (i : Int) (befB l i j) (aftB l i j) (j : Int) = R
  | 0, j, h => by
    obtain rfl : j = l.length := by omega
    rw [Nat.add_zero, frisketref11_Growing.l1, if_neg (by omega)]
    cases hb : befB l i l.length <;> cases ha : aftB l i l.length <;> rw [hb, ha] at hR
    · rw [if_neg (by decide)]; exact hR
    · rw [if_neg (by decide)]; exact hR
    · rw [if_pos rfl, if_neg (by decide)]; exact hR
    · rw [if_pos rfl, if_pos rfl, if_pos hacc]; exact hR
  | d + 1, j, h => by
    have hj : j < l.length := by omega
    obtain ⟨x, hx⟩ : ∃ x, l[j]? = some x := ⟨_, List.getElem?_eq_getElem hj⟩
    have ih := grow_l1 l hl acc hacc i R k0 hR d (j + 1) (by omega)
    rw [befB_step hx, aftB_step hx] at ih
    rw [show k0 + 1 + (d + 1) = (k0 + 1 + d) + 1 by omega, frisketref11_Growing.l1, if_pos (by omega), if_pos (by omega), rdT_at hx, solid_f, Option.bind_some, w64_succ (by omega)]
    have e1 : decide ((j : Int) < (i : Int)) = decide (j < i) := by rw [decide_eq_decide]; omega
    have e2 : decide ((j : Int) > (i : Int)) = decide (j > i) := by rw [decide_eq_decide]; omega
    rw [e1, e2]
    cases hs : solidG x <;> rw [hs] at ih <;> cases hb : befB l i j <;> cases ha : aftB l i j <;> rw [hb, ha] at ih <;> simpa using ih
theorem grow_l0 (l : List S33) (hl : l.length ≤ 1000000) : ∀ (m i k : Nat), i + m = l.length → (l.length + 4) * m + 1 ≤ k → frisketref11_Growing.l0 k l (growTo l i) (i : Int) = some (growL l)
  | m, i, 0, _, h => by omega
  | 0, i, k + 1, h, _ => by
    obtain rfl : i = l.length := by omega
    rw [frisketref11_Growing.l0, if_neg (by omega)]
    rfl
  | m + 1, i, k + 1, h, hk => by
    have hi : i < l.length := by omega
    have hmul : (l.length + 4) * (m + 1) = (l.length + 4) * m + (l.length + 4) := Nat.mul_succ _ _
    obtain ⟨x, hx⟩ : ∃ x, l[i]? = some x := ⟨_, List.getElem?_eq_getElem hi⟩
    have hacc : (growTo l i).length < 17592186044416 := by have := growTo_len l i; omega
    have ih : ∀ k', (l.length + 4) * m + 1 ≤ k' → frisketref11_Growing.l0 k' l (growTo l (i + 1)) (wrap64 ((i : Int) + 1)) = some (growL l) := fun k' h' => by
      rw [w64_succ (by omega)]
      exact grow_l0 l hl m (i + 1) k' (by omega) h'
    obtain ⟨k2, rfl⟩ : ∃ k2, k = k2 + 1 := ⟨k - 1, by omega⟩
    have hno : grw l i = false → frisketref11_Growing.j1 (k2 + 1) l (growTo l i) (i : Int) true = some (growL l) := fun hg => by
      rw [frisketref11_Growing.j1, if_pos rfl]
      have := ih k2 (by omega)
      rw [growTo_no hg] at this
      exact this
    have hyes : lastB l i = true → frisketref11_Growing.j1 (k2 + 1) l (growTo l i) (i : Int) false = some (growL l) := fun hb => by
      rw [frisketref11_Growing.j1, if_neg (by decide)]
      obtain ⟨k3, rfl⟩ : ∃ k3, k2 = k3 + 1 + l.length := ⟨k2 - 1 - l.length, by omega⟩
      have e : grw l i = (befB l i l.length && aftB l i l.length) := by
        unfold grw befB aftB
        rw [hb, List.take_length, Bool.true_and]
      have hb0 : befB l i 0 = false := by unfold befB noneB; simp
      have ha0 : aftB l i 0 = false := by unfold aftB noneB; simp
      have main := grow_l1 l hl (growTo l i) hacc i (some (growL l)) k3 (by
        rw [← e]
        cases hg : grw l i
        · have := ih k3 (by omega)
          rw [growTo_no hg] at this
          exact this
        · have := ih k3 (by omega)
          rw [growTo_yes hg] at this
          exact this) l.length 0 (by omega)
      rw [hb0, ha0] at main
      exact main
    rw [frisketref11_Growing.l0, if_pos (by omega), if_pos (by omega), rdT_at hx]
    by_cases h1 : x.f0 = 1
    · have hsx : spaceB x = true := by unfold spaceB; rw [h1]; rfl
      rw [if_pos h1, w64_succ (by omega)]
      by_cases h2 : i + 1 < l.length
      · rw [if_pos (by omega), if_pos (by omega)]
        obtain ⟨y, hy⟩ : ∃ y, l[i + 1]? = some y := ⟨_, List.getElem?_eq_getElem h2⟩
        rw [rdT_at hy]
        have hm := lastB_mid hx hsx hy
        cases hsy : (y.f0 == 1)
        · exact hyes (by rw [hm]; unfold spaceB; rw [hsy]; rfl)
        · exact hno (by unfold grw; rw [hm]; unfold spaceB; rw [hsy]; rfl)
      · rw [if_neg (by omega)]
        exact hyes (lastB_end hx hsx (by omega))
    · rw [if_neg h1]
      exact hno (by unfold grw; rw [lastB_no hx (by unfold spaceB; exact beq_eq_false_iff_ne.2 h1)]; rfl)
theorem ref_growing (l : List S33) (hl : l.length ≤ 1000000) {k : Nat} (hk : (l.length + 4) * l.length + 1 ≤ k) : frisketref11_Growing.f k l = some (growL l) := by
  unfold frisketref11_Growing.f
  exact grow_l0 l hl l.length 0 k (by omega) hk
end Go.Proofs.YteadghhmoggjnaaB
end
section
/- Plain laws of spread: where it grows, by how much, how broad it gets. -/
set_option linter.unusedVariables false
set_option linter.unusedSimpArgs false
namespace Go.Proofs.YteadghhmoggjnaaB
open Go.RowKit
open Go.Proofs.Yteadghhmoggjnaa.Q (S33)
set_option maxHeartbeats 800000

theorem growTo_mem {l : List S33} {k : Nat} {p : Int} (h : p ∈ growTo l k) : ∃ q : Nat, p = q ∧ q < k ∧ grw l q = true := by
  unfold growTo at h
  obtain ⟨q, hq, rfl⟩ := List.mem_map.1 h
  have := List.mem_filter.1 hq
  exact ⟨q, rfl, List.mem_range.1 this.1, this.2⟩
theorem growL_mem {l : List S33} {p : Int} (h : p ∈ growL l) : ∃ q x, p = ((q : Nat) : Int) ∧ l[q]? = some x ∧ x.f0 = 1 := by
  obtain ⟨q, rfl, hq, hg⟩ := growTo_mem h
  obtain ⟨x, hx⟩ : ∃ x, l[q]? = some x := ⟨_, List.getElem?_eq_getElem hq⟩
  refine ⟨q, x, rfl, hx, ?_⟩
  cases hs : spaceB x with
  | true => unfold spaceB at hs; simpa using hs
  | false =>
    unfold grw at hg
    rw [lastB_no hx hs] at hg
    cases hg
theorem growL_nodup (l : List S33) : (growL l).Nodup := by
  unfold growL growTo
  rw [List.Nodup, List.pairwise_map]
  exact ((List.nodup_range).sublist List.filter_sublist).imp (fun h e => h (by omega))
theorem growL_inj {l : List S33} {i k : Nat} {p : Int} (hi : (growL l)[i]? = some p) (hk : (growL l)[k]? = some p) : i = k := by
  obtain ⟨h1, e1⟩ := List.getElem?_eq_some_iff.1 hi
  obtain ⟨h2, e2⟩ := List.getElem?_eq_some_iff.1 hk
  have hp := List.pairwise_iff_getElem.1 (growL_nodup l)
  rcases Nat.lt_trichotomy i k with h | h | h
  · exact absurd (e1.trans e2.symm) (hp i k h1 h2 h)
  · exact h
  · exact absurd (e2.trans e1.symm) (hp k i h2 h1 h)
section
variable (l : List S33) (each more : Int) (odd : Bool)
/-- What spread has made after k boxes. -/
theorem spread_at (k : Nat) (hk : k ≤ (growL l).length) : (∀ i q x, i < k → (growL l)[i]? = some ((q : Nat) : Int) → l[q]? = some x → (spreadTo l (growL l) each more odd k)[q]? = some (grown each more (growL l).length odd i x)) ∧
    (∀ q : Nat, (∀ i, i < k → (growL l)[i]? ≠ some (q : Int)) → (spreadTo l (growL l) each more odd k)[q]? = l[q]?) := by
  induction k with
  | zero => exact ⟨fun i q x h => by omega, fun q _ => rfl⟩
  | succ k ih =>
    obtain ⟨ih1, ih2⟩ := ih (by omega)
    obtain ⟨p, hp⟩ : ∃ p, (growL l)[k]? = some p := ⟨_, List.getElem?_eq_getElem (by omega)⟩
    obtain ⟨q0, x0, rfl, hx0, -⟩ := growL_mem (List.mem_of_getElem? hp)
    have hs : spreadTo l (growL l) each more odd (k + 1) = (spreadTo l (growL l) each more odd k).modify q0 (grown each more (growL l).length odd k) := by
      show (match (growL l)[k]? with | some i => _ | none => _) = _
      rw [hp]
      rfl
    rw [hs]
    have h0 : (spreadTo l (growL l) each more odd k)[q0]? = some x0 := by
      rw [ih2 q0 (fun i hi e => by have := growL_inj e hp; omega), hx0]
    refine ⟨fun i q x hi hg hx => ?_, fun q hq => ?_⟩
    · rw [List.getElem?_modify]
      by_cases hik : i = k
      · subst hik
        rw [hp] at hg
        have : q0 = q := by injection hg with hg; omega
        subst this
        rw [hx0] at hx
        injection hx with hx
        subst hx
        rw [h0]
        show some (if q0 = q0 then _ else _) = _
        rw [if_pos rfl]
      · have hne : q0 ≠ q := by
          rintro rfl
          exact hik (growL_inj hg hp)
        rw [ih1 i q x (by omega) hg hx]
        show some (if q0 = q then _ else _) = _
        rw [if_neg hne]
    · have hne : q0 ≠ q := by
        rintro rfl
        exact hq k (by omega) hp
      rw [List.getElem?_modify, ih2 q (fun i hi => hq i (by omega))]
      cases l[q]? with
      | none => rfl
      | some y =>
        show some (if q0 = q then _ else _) = _
        rw [if_neg hne]
end
/-! ### sums -/
def sumW : List S33 → Int
  | [] => 0
  | x :: r => (if counts x = true then x.f1 else 0) + sumW r
theorem fold_sum : ∀ (l : List S33) (a : Int), (∀ x ∈ l, -5000 ≤ x.f1 ∧ x.f1 ≤ 5000) → -1000000000 ≤ a - 5000 * (l.length : Int) → a + 5000 * (l.length : Int) ≤ 1000000000 → l.foldl widthStep a = a + sumW l
  | [], a, _, _, _ => by simp [sumW]
  | x :: r, a, hx, h1, h2 => by
    have hx0 := hx x List.mem_cons_self
    rw [List.length_cons] at h1 h2
    rw [List.foldl_cons]
    unfold sumW
    have hs : widthStep a x = a + (if counts x = true then x.f1 else 0) := by
      unfold widthStep
      split
      · unfold wrap64
        omega
      · omega
    have ih := fold_sum r (widthStep a x) (fun y hy => hx y (List.mem_cons_of_mem _ hy)) (by rw [hs]; split <;> omega) (by rw [hs]; split <;> omega)
    rw [ih, hs]
    omega
theorem width_sum (l : List S33) (hx : ∀ x ∈ l, -5000 ≤ x.f1 ∧ x.f1 ≤ 5000) (hl : l.length ≤ 1000) : widthW l = sumW l := by
  have h := fold_sum l 0 hx (by omega) (by omega)
  have e : widthW l = l.foldl widthStep 0 := rfl
  rw [e, h]
  omega
theorem sum_modify : ∀ (l : List S33) (q : Nat) (f : S33 → S33) (x : S33), l[q]? = some x → counts x = true → counts (f x) = true → sumW (l.modify q f) = sumW l + ((f x).f1 - x.f1)
  | [], q, f, x, h, _, _ => by simp at h
  | y :: r, 0, f, x, h, h1, h2 => by
    have : y = x := by simpa using h
    subst this
    show (if counts (f y) = true then (f y).f1 else 0) + sumW r = (if counts y = true then y.f1 else 0) + sumW r + _
    rw [if_pos h1, if_pos h2]
    omega
  | y :: r, q + 1, f, x, h, h1, h2 => by
    have ih := sum_modify r q f x (by simpa using h) h1 h2
    show (if counts y = true then y.f1 else 0) + sumW (r.modify q f) = (if counts y = true then y.f1 else 0) + sumW r + _
    rw [ih]
    omega
def bonus (more n : Int) (odd : Bool) (k : Nat) : Int := if (odd && decide ((k : Int) < more)) || (!odd && decide (n - more ≤ (k : Int))) then 1 else 0
/-- The sum of the first bonuses. -/
def bonusTo (more n : Int) (odd : Bool) : Nat → Int
  | 0 => 0
  | k + 1 => bonusTo more n odd k + bonus more n odd k
theorem bonus_odd (more n : Int) (k : Nat) : bonus more n true k = if (k : Int) < more then 1 else 0 := by
  unfold bonus
  by_cases h : (k : Int) < more
  · rw [decide_eq_true h, if_pos h]; rfl
  · rw [decide_eq_false h, if_neg h]; rfl
theorem bonus_even (more n : Int) (k : Nat) : bonus more n false k = if n - more ≤ (k : Int) then 1 else 0 := by
  unfold bonus
  by_cases h : n - more ≤ (k : Int)
  · rw [decide_eq_true h, if_pos h]; rfl
  · rw [decide_eq_false h, if_neg h]; rfl
theorem bonusTo_odd (more n : Int) (h0 : 0 ≤ more) : ∀ k, bonusTo more n true k = if (k : Int) ≤ more then (k : Int) else more
  | 0 => by simp [bonusTo]; omega
  | k + 1 => by
    unfold bonusTo
    rw [bonusTo_odd more n h0 k, bonus_odd]
    split <;> split <;> split <;> omega
theorem bonusTo_even (more n : Int) (h0 : 0 ≤ more) (h1 : more ≤ n) : ∀ k, bonusTo more n false k = if (k : Int) ≤ n - more then 0 else (k : Int) - (n - more)
  | 0 => by simp [bonusTo]; omega
  | k + 1 => by
    unfold bonusTo
    rw [bonusTo_even more n h0 h1 k, bonus_even]
    split <;> split <;> split <;> omega
theorem bonusTo_all (more : Int) (n : Nat) (odd : Bool) (h0 : 0 ≤ more) (h1 : more ≤ n) : bonusTo more n odd n = more := by
  cases odd
  · rw [bonusTo_even more n h0 h1]
    split <;> omega
  · rw [bonusTo_odd more n h0]
    split <;> omega
theorem spread_sum (l : List S33) (each more : Int) (odd : Bool) : ∀ k, k ≤ (growL l).length → sumW (spreadTo l (growL l) each more odd k) = sumW l + (k : Int) * each + bonusTo more (growL l).length odd k
  | 0, _ => by simp [spreadTo, bonusTo]
  | k + 1, hk => by
    have ih := spread_sum l each more odd k (by omega)
    have hat := spread_at l each more odd k (by omega)
    obtain ⟨p, hp⟩ : ∃ p, (growL l)[k]? = some p := ⟨_, List.getElem?_eq_getElem (by omega)⟩
    obtain ⟨q0, x0, rfl, hx0, hf⟩ := growL_mem (List.mem_of_getElem? hp)
    have hs : spreadTo l (growL l) each more odd (k + 1) = (spreadTo l (growL l) each more odd k).modify q0 (grown each more (growL l).length odd k) := by
      show (match (growL l)[k]? with | some i => _ | none => _) = _
      rw [hp]
      rfl
    have h0 : (spreadTo l (growL l) each more odd k)[q0]? = some x0 := by
      rw [hat.2 q0 (fun i hi e => by have := growL_inj e hp; omega), hx0]
    have hc : counts x0 = true := by unfold counts; rw [hf]; rfl
    have hc2 : counts (grown each more (growL l).length odd k x0) = true := by
      have : (grown each more (growL l).length odd k x0).f0 = 1 := hf
      unfold counts; rw [this]; rfl
    rw [hs, sum_modify _ _ _ _ h0 hc hc2, ih]
    have e : (grown each more (growL l).length odd k x0).f1 - x0.f1 = each + bonus more (growL l).length odd k := by
      show x0.f1 + each + bonus more (growL l).length odd k - x0.f1 = _
      omega
    rw [e]
    show _ = sumW l + ((k + 1 : Nat) : Int) * each + (bonusTo more (growL l).length odd k + bonus more (growL l).length odd k)
    have : ((k + 1 : Nat) : Int) * each = (k : Int) * each + each := by rw [Int.natCast_add, Int.add_mul]; omega
    omega
end Go.Proofs.YteadghhmoggjnaaB
end
