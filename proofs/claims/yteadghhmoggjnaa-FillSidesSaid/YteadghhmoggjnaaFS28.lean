import Derived.KernelRfl
import Derived.Test.YteadghhmoggjnaaFS10
import Derived.Test.YteadghhmoggjnaaFS17
import Derived.Test.YteadghhmoggjnaaFS18
import Derived.Test.YteadghhmoggjnaaFS21
import Derived.Test.YteadghhmoggjnaaFS23
import Derived.Test.YteadghhmoggjnaaFS27
section
/- Plain laws of the printed functions of chapter 11: Width, Same, Row. -/
set_option linter.unusedVariables false
set_option linter.unusedSimpArgs false
namespace Go.Proofs.YteadghhmoggjnaaB
open Go.RowKit
open Go.Proofs.Yteadghhmoggjnaa.Q
open Go.Proofs.YteadghhmoggjnaaW.PrintWords Go.Proofs.YteadghhmoggjnaaW.PrintLast
set_option maxHeartbeats 800000

theorem rdT_at {l : List S33} {j : Nat} {x : S33} (h : l[j]? = some x) : rd_T33 l (j : Int) = x := by
  unfold rd_T33
  rw [Int.toNat_natCast, List.getD_eq_getElem?_getD, h]
  rfl
theorem w64_succ {j : Nat} (h : j ≤ 1000000000000) : wrap64 ((j : Int) + 1) = ((j + 1 : Nat) : Int) := by
  unfold wrap64
  omega
theorem ref_width_l (l : List S33) (hl : l.length ≤ 1000000000000) : ∀ (k j : Nat), j ≤ l.length → l.length < k + j → frisketref08_Width.l0 k l (widthW (l.take j)) (j : Int) = some (widthW l)
  | 0, j, h1, h2 => by omega
  | k + 1, j, h1, h2 => by
    unfold frisketref08_Width.l0
    by_cases hj : j < l.length
    · rw [if_pos (by omega), if_pos (by omega)]
      obtain ⟨x, hx⟩ : ∃ x, l[j]? = some x := ⟨_, List.getElem?_eq_getElem hj⟩
      rw [rdT_at hx, w64_succ (by omega)]
      have ih := ref_width_l l hl k (j + 1) (by omega) (by omega)
      by_cases h3 : x.f0 = 3
      · rw [if_pos h3]
        rw [width_no hx (by simp [counts, h3])] at ih
        exact ih
      · rw [if_neg h3]
        by_cases h5 : x.f0 = 5
        · rw [if_pos h5]
          rw [width_no hx (by simp [counts, h5])] at ih
          exact ih
        · rw [if_neg h5]
          by_cases h0 : x.f0 ≥ 0
          · rw [if_pos h0]
            by_cases h6 : x.f0 ≤ 6
            · rw [if_pos h6]
              have hc : counts x = true := by
                have : x.f0 = 0 ∨ x.f0 = 1 ∨ x.f0 = 2 ∨ x.f0 = 4 ∨ x.f0 = 6 := by omega
                unfold counts
                rcases this with h | h | h | h | h <;> simp [h]
              rw [width_yes hx hc] at ih
              exact ih
            · rw [if_neg h6]
              rw [width_no hx (by unfold counts; simp; omega)] at ih
              exact ih
          · rw [if_neg h0]
            rw [width_no hx (by unfold counts; simp; omega)] at ih
            exact ih
    · rw [if_neg (by omega), List.take_of_length_le (by omega)]
theorem ref_width (l : List S33) (hl : l.length ≤ 1000000000000) {k : Nat} (hk : l.length < k) : frisketref08_Width.f k l = some (widthW l) := ref_width_l l hl k 0 (Nat.zero_le _) hk
theorem samebox_l (x : S33) (hx : x.f6.length ≤ 1000000000000) : ∀ (k j : Nat), j ≤ x.f6.length → x.f6.length < k + j → frisketref08_SameBox.l0 k (j : Int) x.f0 x.f1 x.f2 x.f3 x.f4 x.f5 x.f6 x.f0 x.f1 x.f2 x.f3 x.f4 x.f5 x.f6 = some true
  | 0, j, h1, h2 => by omega
  | k + 1, j, h1, h2 => by
    unfold frisketref08_SameBox.l0
    by_cases hj : j < x.f6.length
    · rw [if_pos (by omega), if_pos (by omega), if_pos (by omega), if_pos rfl, w64_succ (by omega)]
      exact samebox_l x hx k (j + 1) (by omega) (by omega)
    · rw [if_neg (by omega)]
theorem samebox (x : S33) (hx : x.f6.length ≤ 1000000000000) {k : Nat} (hk : x.f6.length + 1 < k) : frisketref08_SameBox.f k x.f0 x.f1 x.f2 x.f3 x.f4 x.f5 x.f6 x.f0 x.f1 x.f2 x.f3 x.f4 x.f5 x.f6 = some true := by
  unfold frisketref08_SameBox.f
  rw [if_pos rfl, if_pos rfl, if_pos rfl, if_pos rfl, if_pos rfl, if_pos rfl]
  obtain ⟨k, rfl⟩ : ∃ m, k = m + 1 := ⟨k - 1, by omega⟩
  have e : ((x.f6.length : Int) != (x.f6.length : Int)) = false := by simp
  rw [e]
  rw [frisketref08_SameBox.j0, if_neg (by decide)]
  exact samebox_l x hx k 0 (Nat.zero_le _) (by omega)
theorem same_l (l : List S33) (M : Nat) (hM : M ≤ 1000000000000) (hl : l.length ≤ 1000000000000) (h6 : ∀ x ∈ l, x.f6.length ≤ M) : ∀ (k j : Nat), j ≤ l.length → l.length + M + 1 < k + j → frisketref08_Same.l0 k l l (j : Int) = some true
  | 0, j, h1, h2 => by omega
  | k + 1, j, h1, h2 => by
    unfold frisketref08_Same.l0
    by_cases hj : j < l.length
    · rw [if_pos (by omega), if_pos (by omega), if_pos (by omega)]
      obtain ⟨x, hx⟩ : ∃ x, l[j]? = some x := ⟨_, List.getElem?_eq_getElem hj⟩
      have hxm := h6 x (List.mem_of_getElem? hx)
      rw [rdT_at hx, samebox x (by omega) (by omega), w64_succ (by omega)]
      rw [Option.bind_some, if_pos rfl]
      exact same_l l M hM hl h6 k (j + 1) (by omega) (by omega)
    · rw [if_neg (by omega)]
theorem same_self (l : List S33) (M : Nat) (hM : M ≤ 1000000000000) (hl : l.length ≤ 1000000000000) (h6 : ∀ x ∈ l, x.f6.length ≤ M) {k : Nat} (hk : l.length + M + 1 < k) : frisketref08_Same.f k l l = some true := by
  unfold frisketref08_Same.f
  rw [if_pos rfl]
  exact same_l l M hM hl h6 k 0 (Nat.zero_le _) hk

/-! ### Row -/
def kOf (n : Int) : Int := wrap64 (Int.tmod (IntKind.u64.wrap n) 100000)
theorem kOf_range (n : Int) : 0 ≤ kOf n ∧ kOf n < 100000 := by
  unfold kOf
  rw [IntKind.wrap_u64, Int.tmod_eq_emod_of_nonneg (by omega)]
  unfold wrap64
  omega
/-- One letter. -/
def letter (c : Int) : ByteArray := (⟨#[97, 98, 99, 100, 101, 102, 103, 104]⟩ : ByteArray).extract c.toNat (wrap64 (c + 1)).toNat
def boxRQ (r q : Int) : S33 :=
  if r = 0 ∨ r = 1 ∨ r = 2 then ⟨1, Int.tmod q 20, 0, 10, ⟨#[]⟩, ⟨#[]⟩, []⟩
  else if r = 3 ∨ r = 4 then ⟨5, 0, 0, 0, ⟨#[]⟩, ⟨#[]⟩, []⟩
  else if r = 5 then ⟨1, 5, 0, 10, ⟨#[126]⟩, ⟨#[]⟩, []⟩
  else if r = 6 then ⟨2, wrap64 (Int.tmod q 31 - 15), 0, 0, ⟨#[]⟩, ⟨#[]⟩, []⟩
  else if r = 7 then ⟨6, Int.tmod q 10, 0, 0, ⟨#[]⟩, ⟨#[]⟩, []⟩
  else ⟨0, wrap64 (5 + Int.tmod q 12), 0, 10, letter (Int.tmod q 8), ⟨#[]⟩, []⟩
def boxOf (n : Int) : S33 := boxRQ (Int.tmod (kOf n) 12) (wrap64 (Int.tdiv (kOf n) 12))
def rowL (l : List Int) : List S33 := (l.take 120).map boxOf
theorem rd_at {l : List Int} {j : Nat} {x : Int} (h : l[j]? = some x) : rd l (j : Int) = x := by
  unfold rd
  rw [Int.toNat_natCast, List.getD_eq_getElem?_getD, h]
  rfl
theorem row_step (l : List Int) {j : Nat} {n : Int} (h : l[j]? = some n) : (l.take (j + 1)).map boxOf = (l.take j).map boxOf ++ [boxOf n] := by
  obtain ⟨hj, rfl⟩ := List.getElem?_eq_some_iff.1 h
  rw [List.take_succ_eq_append_getElem hj, List.map_append]
  rfl
theorem row_one (l : List Int) (acc : List S33) (j kk r : Int) (R : List S33) (k : Nat) (hr0 : 0 ≤ r) (hr1 : r < 12) (hlen : acc.length < 1599289640401)
    (hc0 : 0 ≤ Int.tmod (wrap64 (Int.tdiv kk 12)) 8) (hc1 : Int.tmod (wrap64 (Int.tdiv kk 12)) 8 ≤ wrap64 (Int.tmod (wrap64 (Int.tdiv kk 12)) 8 + 1)) (hc2 : wrap64 (Int.tmod (wrap64 (Int.tdiv kk 12)) 8 + 1) ≤ 8)
    (ih1 : frisketlaw11_Row.l0 (k + 1) l (acc ++ [boxRQ r (wrap64 (Int.tdiv kk 12))]) (wrap64 (j + 1)) = some R) (ih2 : frisketlaw11_Row.l0 k l (acc ++ [boxRQ r (wrap64 (Int.tdiv kk 12))]) (wrap64 (j + 1)) = some R) :
    (if r = 0 then frisketlaw11_Row.j2 (k + 2) l acc j kk r (r == 0) else if r = 1 then frisketlaw11_Row.j2 (k + 2) l acc j kk r (r == 1) else frisketlaw11_Row.j2 (k + 2) l acc j kk r (r == 2)) = some R := by
  have : r = 0 ∨ r = 1 ∨ r = 2 ∨ r = 3 ∨ r = 4 ∨ r = 5 ∨ r = 6 ∨ r = 7 ∨ r = 8 ∨ r = 9 ∨ r = 10 ∨ r = 11 := by omega
  rcases this with rfl | rfl | rfl | rfl | rfl | rfl | rfl | rfl | rfl | rfl | rfl | rfl
  · rw [if_pos rfl]; unfold frisketlaw11_Row.j2; rw [if_pos (by decide)]
    show (if acc.length < 1599289640401 then _ else none) = _
    rw [if_pos hlen]; exact ih1
  · rw [if_neg (by decide), if_pos rfl]; unfold frisketlaw11_Row.j2; rw [if_pos (by decide)]
    show (if acc.length < 1599289640401 then _ else none) = _
    rw [if_pos hlen]; exact ih1
  · rw [if_neg (by decide), if_neg (by decide)]; unfold frisketlaw11_Row.j2; rw [if_pos (by decide)]
    show (if acc.length < 1599289640401 then _ else none) = _
    rw [if_pos hlen]; exact ih1
  · rw [if_neg (by decide), if_neg (by decide)]; unfold frisketlaw11_Row.j2; rw [if_neg (by decide), if_pos rfl]; unfold frisketlaw11_Row.j3; rw [if_pos (by decide), if_pos hlen]; exact ih2
  · rw [if_neg (by decide), if_neg (by decide)]; unfold frisketlaw11_Row.j2; rw [if_neg (by decide), if_neg (by decide)]; unfold frisketlaw11_Row.j3; rw [if_pos (by decide), if_pos hlen]; exact ih2
  · rw [if_neg (by decide), if_neg (by decide)]; unfold frisketlaw11_Row.j2; rw [if_neg (by decide), if_neg (by decide)]; unfold frisketlaw11_Row.j3; rw [if_neg (by decide), if_pos rfl, if_pos hlen]; exact ih2
  · rw [if_neg (by decide), if_neg (by decide)]; unfold frisketlaw11_Row.j2; rw [if_neg (by decide), if_neg (by decide)]; unfold frisketlaw11_Row.j3; rw [if_neg (by decide), if_neg (by decide), if_pos rfl, if_pos hlen]; exact ih2
  · rw [if_neg (by decide), if_neg (by decide)]; unfold frisketlaw11_Row.j2; rw [if_neg (by decide), if_neg (by decide)]; unfold frisketlaw11_Row.j3; rw [if_neg (by decide), if_neg (by decide), if_neg (by decide), if_pos rfl, if_pos hlen]; exact ih2
  all_goals (rw [if_neg (by decide), if_neg (by decide)]; unfold frisketlaw11_Row.j2; rw [if_neg (by decide), if_neg (by decide)]; unfold frisketlaw11_Row.j3; rw [if_neg (by decide), if_neg (by decide), if_neg (by decide), if_neg (by decide), if_pos hc0, if_pos hc1, if_pos hc2, if_pos hlen]; exact ih2)
theorem row_l (l : List Int) : ∀ (m j k : Nat), j ≤ l.length → j ≤ 120 → 120 = m + j → 4 * m + 2 ≤ k → frisketlaw11_Row.l0 k l ((l.take j).map boxOf) (j : Int) = some (rowL l)
  | m, j, 0, _, _, _, h => by omega
  | m, j, 1, _, _, _, h => by omega
  | m, j, k + 2, h1, h2, h3, h4 => by
    unfold frisketlaw11_Row.l0
    by_cases hj : j < l.length
    · rw [if_pos (by omega)]
      by_cases hj2 : j < 120
      · rw [show decide ((j : Int) < 120) = true from decide_eq_true (by omega)]
        unfold frisketlaw11_Row.j1
        rw [if_pos rfl, if_pos (by omega), if_pos (by omega)]
        obtain ⟨n, hn⟩ : ∃ n, l[j]? = some n := ⟨_, List.getElem?_eq_getElem hj⟩
        rw [rd_at hn, show wrap64 (Int.tmod (IntKind.u64.wrap n) 100000) = kOf n from rfl]
        obtain ⟨m, rfl⟩ : ∃ m', m = m' + 1 := ⟨m - 1, by omega⟩
        obtain ⟨k, rfl⟩ : ∃ k', k = k' + 4 := ⟨k - 4, by omega⟩
        have hk := kOf_range n
        have ih := row_l l m (j + 1) (k + 2) (by omega) (by omega) (by omega) (by omega)
        have ih3 := row_l l m (j + 1) (k + 3) (by omega) (by omega) (by omega) (by omega)
        rw [row_step l hn] at ih ih3
        have hlen : ((l.take j).map boxOf).length < 1599289640401 := by rw [List.length_map, List.length_take]; omega
        have h12 : 0 ≤ Int.tmod (kOf n) 12 ∧ Int.tmod (kOf n) 12 < 12 := by rw [Int.tmod_eq_emod_of_nonneg hk.1]; omega
        have hq0 : 0 ≤ wrap64 (Int.tdiv (kOf n) 12) ∧ wrap64 (Int.tdiv (kOf n) 12) < 100000 := by rw [Int.tdiv_eq_ediv_of_nonneg hk.1]; unfold wrap64; omega
        have hc : 0 ≤ Int.tmod (wrap64 (Int.tdiv (kOf n) 12)) 8 ∧ Int.tmod (wrap64 (Int.tdiv (kOf n) 12)) 8 < 8 := by rw [Int.tmod_eq_emod_of_nonneg hq0.1]; omega
        refine row_one l _ _ _ _ (rowL l) (k + 2) h12.1 h12.2 hlen hc.1 (by have h := hc; revert h; generalize Int.tmod (wrap64 (Int.tdiv (kOf n) 12)) 8 = c; intro h; unfold wrap64; omega) (by have h := hc; revert h; generalize Int.tmod (wrap64 (Int.tdiv (kOf n) 12)) 8 = c; intro h; unfold wrap64; omega) ?_ ?_
        · rw [w64_succ (by omega)]; exact ih3
        · rw [w64_succ (by omega)]; exact ih
      · rw [show decide ((j : Int) < 120) = false from decide_eq_false (by omega)]
        unfold frisketlaw11_Row.j1
        rw [if_neg (by decide)]
        unfold rowL
        rw [show j = 120 by omega]
    · rw [if_neg (by omega)]
      unfold frisketlaw11_Row.j1
      rw [if_neg (by decide)]
      unfold rowL
      rw [List.take_of_length_le (by omega), List.take_of_length_le (by omega)]
theorem row_f (l : List Int) {k : Nat} (hk : 482 ≤ k) : frisketlaw11_Row.f k l = some (rowL l) := row_l l 120 0 k (Nat.zero_le _) (by omega) rfl hk
theorem rowL_len (l : List Int) : (rowL l).length ≤ 120 := by
  unfold rowL
  rw [List.length_map, List.length_take]
  omega
theorem letter_all : (List.range 8).all (fun (c : Nat) => namedB (letter (c : Int))) = true := by kernel_rfl
theorem letter_ok (c : Int) (h0 : 0 ≤ c) (h1 : c < 8) : namedB (letter c) = true := by
  have h := List.all_eq_true.1 letter_all c.toNat (List.mem_range.2 (by omega))
  rw [Int.toNat_of_nonneg h0] at h
  exact h
/-- What every box of numbers is. -/
theorem boxOf_ok (n : Int) : validB (boxOf n) = true ∧ (boxOf n).f6 = [] ∧ (-15 ≤ (boxOf n).f1 ∧ (boxOf n).f1 ≤ 20) := by
  have hk := kOf_range n
  have hr : 0 ≤ Int.tmod (kOf n) 12 ∧ Int.tmod (kOf n) 12 < 12 := by rw [Int.tmod_eq_emod_of_nonneg hk.1]; omega
  have hq : 0 ≤ wrap64 (Int.tdiv (kOf n) 12) ∧ wrap64 (Int.tdiv (kOf n) 12) < 100000 := by rw [Int.tdiv_eq_ediv_of_nonneg hk.1]; unfold wrap64; omega
  have h20 : 0 ≤ Int.tmod (wrap64 (Int.tdiv (kOf n) 12)) 20 ∧ Int.tmod (wrap64 (Int.tdiv (kOf n) 12)) 20 < 20 := by rw [Int.tmod_eq_emod_of_nonneg hq.1]; omega
  have h31 : 0 ≤ Int.tmod (wrap64 (Int.tdiv (kOf n) 12)) 31 ∧ Int.tmod (wrap64 (Int.tdiv (kOf n) 12)) 31 < 31 := by rw [Int.tmod_eq_emod_of_nonneg hq.1]; omega
  have h10 : 0 ≤ Int.tmod (wrap64 (Int.tdiv (kOf n) 12)) 10 ∧ Int.tmod (wrap64 (Int.tdiv (kOf n) 12)) 10 < 10 := by rw [Int.tmod_eq_emod_of_nonneg hq.1]; omega
  have h12 : 0 ≤ Int.tmod (wrap64 (Int.tdiv (kOf n) 12)) 12 ∧ Int.tmod (wrap64 (Int.tdiv (kOf n) 12)) 12 < 12 := by rw [Int.tmod_eq_emod_of_nonneg hq.1]; omega
  have h8 : 0 ≤ Int.tmod (wrap64 (Int.tdiv (kOf n) 12)) 8 ∧ Int.tmod (wrap64 (Int.tdiv (kOf n) 12)) 8 < 8 := by rw [Int.tmod_eq_emod_of_nonneg hq.1]; omega
  have hcol : colourB ⟨#[]⟩ = true := by kernel_rfl
  unfold boxOf
  generalize Int.tmod (kOf n) 12 = r at *
  generalize wrap64 (Int.tdiv (kOf n) 12) = q at *
  have hv : ∀ x : S33, -15 ≤ x.f1 → x.f1 ≤ 20 → x.f2 = 0 → 0 ≤ x.f3 → x.f5 = ⟨#[]⟩ → validB x = (if x.f0 = 0 then namedB x.f4 && (x.f6.length == 0)
   else if x.f0 = 1 then ((x.f4.toList == []) || (x.f4.toList == [126])) && (x.f5.toList == []) && (x.f6.length == 0)
   else if x.f0 = 4 then (x.f2 == 0) && (x.f3 == 0) && (x.f4.size == 1) && strokeB x.f4 && decide (x.f6.length ≤ 40) && allI farV x.f6
   else if x.f0 = 5 then bareB x && (x.f4.toList == []) && (x.f1 == 0)
   else if x.f0 = 2 ∨ x.f0 = 3 ∨ x.f0 = 6 then bareB x && (x.f4.toList == [])
   else false) := fun x a1 a2 a3 a4 a5 => by
    unfold validB
    rw [decide_eq_false (by omega : ¬ x.f1 < -1000000), decide_eq_false (by omega : ¬ 1000000 < x.f1), decide_eq_false (by omega : ¬ x.f2 < 0), decide_eq_false (by omega : ¬ x.f3 < 0), a5, hcol]
    rfl
  have hmt : (⟨#[]⟩ : ByteArray).toList = [] := by kernel_rfl
  have htl : (⟨#[126]⟩ : ByteArray).toList = [126] := by kernel_rfl
  unfold boxRQ
  split
  · refine ⟨?_, rfl, by dsimp only; omega⟩
    rw [hv _ (by dsimp only; omega) (by dsimp only; omega) rfl (by dsimp only; omega) rfl]
    dsimp only
    rw [hmt]
    rfl
  · split
    · refine ⟨by kernel_rfl, rfl, by decide⟩
    · split
      · refine ⟨by kernel_rfl, rfl, by decide⟩
      · split
        · have e : -15 ≤ wrap64 (Int.tmod q 31 - 15) ∧ wrap64 (Int.tmod q 31 - 15) ≤ 20 := by unfold wrap64; omega
          refine ⟨?_, rfl, e⟩
          rw [hv _ e.1 e.2 rfl (by dsimp only; omega) rfl]
          dsimp only
          unfold bareB
          dsimp only
          rw [hmt]
          rfl
        · split
          · refine ⟨?_, rfl, by dsimp only; omega⟩
            rw [hv _ (by dsimp only; omega) (by dsimp only; omega) rfl (by dsimp only; omega) rfl]
            dsimp only
            unfold bareB
            dsimp only
            rw [hmt]
            rfl
          · have e : -15 ≤ wrap64 (5 + Int.tmod q 12) ∧ wrap64 (5 + Int.tmod q 12) ≤ 20 := by unfold wrap64; omega
            refine ⟨?_, rfl, e⟩
            rw [hv _ e.1 e.2 rfl (by dsimp only; omega) rfl]
            dsimp only
            rw [letter_ok _ h8.1 h8.2]
            rfl
end Go.Proofs.YteadghhmoggjnaaB
end
section
/- Plain laws: how broad a row of numbers is; Adjust at it. -/
set_option linter.unusedVariables false
namespace Go.Proofs.YteadghhmoggjnaaB
open Go.RowKit
open Go.Proofs.Yteadghhmoggjnaa.Q (S33)
open Go.Proofs.YteadghhmoggjnaaW.PrintWords Go.Proofs.YteadghhmoggjnaaW.PrintLast

theorem width_bound : ∀ (l : List S33) (a : Int), (∀ x ∈ l, -20 ≤ x.f1 ∧ x.f1 ≤ 20) → -1000000 ≤ a - 20 * (l.length : Int) → a + 20 * (l.length : Int) ≤ 1000000 →
    a - 20 * (l.length : Int) ≤ l.foldl widthStep a ∧ l.foldl widthStep a ≤ a + 20 * (l.length : Int)
  | [], a, _, _, _ => by simp
  | x :: r, a, hx, h1, h2 => by
    have hx0 := hx x List.mem_cons_self
    rw [List.length_cons] at h1 h2 ⊢
    rw [List.foldl_cons]
    have hs : widthStep a x = a ∨ widthStep a x = a + x.f1 := by
      unfold widthStep
      split
      · right
        unfold wrap64
        omega
      · exact .inl rfl
    have ih := width_bound r (widthStep a x) (fun y hy => hx y (List.mem_cons_of_mem _ hy)) (by rcases hs with h | h <;> omega) (by rcases hs with h | h <;> omega)
    rcases hs with h | h <;> omega
theorem rowL_mem {l : List Int} {x : S33} (h : x ∈ rowL l) : ∃ n, x = boxOf n := by
  unfold rowL at h
  obtain ⟨n, -, rfl⟩ := List.mem_map.1 h
  exact ⟨n, rfl⟩
theorem rowL_width (l : List Int) : -2400 ≤ widthW (rowL l) ∧ widthW (rowL l) ≤ 2400 := by
  have hl := rowL_len l
  have h := width_bound (rowL l) 0 (fun x hx => by obtain ⟨n, rfl⟩ := rowL_mem hx; have := (boxOf_ok n).2.2; omega) (by omega) (by omega)
  have e : widthW (rowL l) = (rowL l).foldl widthStep 0 := rfl
  rw [e]
  omega
theorem rowL_valid (l : List Int) : (rowL l).all validB = true := List.all_eq_true.2 (fun x hx => by obtain ⟨n, rfl⟩ := rowL_mem hx; exact (boxOf_ok n).1)
theorem rowL_f6 (l : List Int) : ∀ x ∈ rowL l, x.f6.length ≤ 0 := fun x hx => by obtain ⟨n, rfl⟩ := rowL_mem hx; rw [(boxOf_ok n).2.1]; exact Nat.le_refl _
theorem rowL_check (l : List Int) (n : Int) (h0 : 0 ≤ n) (h1 : n ≤ 10000000) : checkI (rowL l) [n] = 0 := by
  unfold checkI
  have hf : allI farL [n] = true := by
    unfold allI farL
    rw [List.all_cons, List.all_nil, decide_eq_false (by omega : ¬ n < 0), decide_eq_false (by omega : ¬ 10000000 < n)]
    rfl
  rw [rowL_valid, hf]
  have := rowL_len l
  rw [if_neg (by decide), if_neg (by omega)]
theorem rowL_adj (l : List Int) (n mode : Int) (odd : Bool) (h0 : 0 ≤ n) (h1 : n ≤ 10000000) (hm : mode = 108 ∨ mode = 114 ∨ mode = 99) : adjL (rowL l) n mode odd = (rowL l, wayOf mode (n - widthW (rowL l)), 0) := by
  unfold adjL
  rw [if_neg (by rw [rowL_check l n h0 h1]; omega), if_neg (by rw [rowL_check l n h0 h1]; omega), if_neg (by omega)]
theorem lenOf (a : Int) : 0 ≤ wrap64 (Int.tmod (IntKind.u64.wrap a) 2000) ∧ wrap64 (Int.tmod (IntKind.u64.wrap a) 2000) < 2000 := by
  rw [IntKind.wrap_u64, Int.tmod_eq_emod_of_nonneg (by omega)]
  unfold wrap64
  omega
end Go.Proofs.YteadghhmoggjnaaB
end
section
/- What FillSides' walk reckons is true. -/
namespace Go.Proofs.Yteadghhmoggjnaa.Pure
open Go.RowKit Go.Proofs.Yteadghhmoggjnaa.Q Go.Proofs.YteadghhmoggjnaaW.PrintWords Go.Proofs.YteadghhmoggjnaaW.PrintLast
open Go.Proofs.YteadghhmoggjnaaB (rowL row_f rowL_len rowL_f6 rowL_width rowL_adj lenOf ref_width same_self wayOf most0)

theorem FillSides : frisketlaw11_FillSides.Pure := by
  intro l0 a1 _ _ _ _
  refine ⟨1000, ?_⟩
  have hn := lenOf a1
  have hl := rowL_len l0
  have hw := rowL_width l0
  have hs := same_self (rowL l0) 0 (by decide) (by omega) (rowL_f6 l0) (k := 1000) (by omega)
  unfold frisketlaw11_FillSides.f
  generalize wrap64 (Int.tmod (IntKind.u64.wrap a1) 2000) = n at *
  rw [row_f l0 (by decide), Option.bind_some]
  have a114 : fill_Adjust.f (rowL l0) n 114 true = some (rowL l0, wayOf 114 (n - Go.Proofs.YteadghhmoggjnaaB.widthW (rowL l0)), 0) := congrArg some (rowL_adj l0 n 114 true hn.1 (by omega) (by omega))
  have a99 : fill_Adjust.f (rowL l0) n 99 true = some (rowL l0, wayOf 99 (n - Go.Proofs.YteadghhmoggjnaaB.widthW (rowL l0)), 0) := congrArg some (rowL_adj l0 n 99 true hn.1 (by omega) (by omega))
  have a108 : fill_Adjust.f (rowL l0) n 108 true = some (rowL l0, wayOf 108 (n - Go.Proofs.YteadghhmoggjnaaB.widthW (rowL l0)), 0) := congrArg some (rowL_adj l0 n 108 true hn.1 (by omega) (by omega))
  rw [a114, Option.bind_some, a99, Option.bind_some, a108, Option.bind_some, ref_width (rowL l0) (by omega) (by omega), Option.bind_some]
  generalize Go.Proofs.YteadghhmoggjnaaB.widthW (rowL l0) = w at *
  have e1 : wrap64 (n - w) = n - w := by unfold wrap64; omega
  have e2 : mx (n - w) 0 = most0 (n - w) := rfl
  have hm : 0 ≤ most0 (n - w) ∧ most0 (n - w) ≤ 5000 := by unfold most0; split <;> omega
  have e3 : wrap64 (most0 (n - w) / 2) = most0 (n - w) / 2 := by unfold wrap64; omega
  rw [e1, e2, e3]
  dsimp only
  rw [if_pos rfl, if_pos rfl, if_pos rfl, if_pos (show wayOf 114 (n - w) = most0 (n - w) from rfl), if_pos (show wayOf 99 (n - w) = most0 (n - w) / 2 from rfl), if_pos (show wayOf 108 (n - w) = 0 from rfl), hs, Option.bind_some, if_pos rfl, Option.bind_some, if_pos rfl, Option.bind_some, if_pos rfl]
  rfl
end Go.Proofs.Yteadghhmoggjnaa.Pure
end
