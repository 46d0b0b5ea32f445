import Derived.Test.YteadghhmoggjnaaFM9
import Derived.Test.YteadghhmoggjnaaFM13
set_option linter.unusedVariables false
set_option linter.unusedSimpArgs false
section
section
namespace Go.Proofs.YteadghhmoggjnaaB
open Go.RowKit
open Yteadghhmoggjnaa.Q
open YteadghhmoggjnaaW.PrintWords YteadghhmoggjnaaW.PrintLast
set_option maxHeartbeats 800000
theorem rdT_at {l : List S33} {j : Nat} {x : S33} (h : l[j]? = some x) : rT l (j : Int) = x := by
 unfold rT
 rw [Int.toNat_natCast, List.getD_eq_getElem?_getD, h]
 rfl
theorem w64_succ {j : Nat} (h : j ≤ 1000000000000) : wrap64 ((j : Int) + 1) = ((j + 1 : Nat) : Int) := by
 unfold wrap64
 omega
theorem ref_width_l (l : List S33) (hl : l.length ≤ 1000000000000) : ∀ (k j : Nat), j ≤ l.length → l.length < k + j → s_Width.l0 k l (widthW (l.take j)) (j : Int) = some (widthW l)
 | 0, j, h1, h2 => by omega
 | k + 1, j, h1, h2 => by
  unfold s_Width.l0
  by_cases hj : j < l.length
  ·rw [if_pos (by omega), if_pos (by omega)]
   obtain ⟨x, hx⟩ : ∃ x, l[j]? = some x := ⟨_, List.getElem?_eq_getElem hj⟩
   rw [rdT_at hx, w64_succ (by omega)]
   have ih := ref_width_l l hl k (j + 1) (by omega) (by omega)
   by_cases h3 : x.f0 = 3
   ·rw [if_pos h3]
    rw [width_no hx (by simp [counts, h3])] at ih
    exact ih
   ·rw [if_neg h3]
    by_cases h5 : x.f0 = 5
    ·rw [if_pos h5]
     rw [width_no hx (by simp [counts, h5])] at ih
     exact ih
    ·rw [if_neg h5]
     by_cases h0 : x.f0 ≥ 0
     ·rw [if_pos h0]
      by_cases h6 : x.f0 ≤ 6
      ·rw [if_pos h6]
       have hc : counts x = true := by
        have : x.f0 = 0 ∨ x.f0 = 1 ∨ x.f0 = 2 ∨ x.f0 = 4 ∨ x.f0 = 6 := by omega
        unfold counts
        rcases this with h | h | h | h | h <;> simp [h]
       rw [width_yes hx hc] at ih
       exact ih
      ·rw [if_neg h6]
       rw [width_no hx (by unfold counts; simp; omega)] at ih
       exact ih
     ·rw [if_neg h0]
      rw [width_no hx (by unfold counts; simp; omega)] at ih
      exact ih
  ·rw [if_neg (by omega), List.take_of_length_le (by omega)]
theorem ref_width (l : List S33) (hl : l.length ≤ 1000000000000) {k : Nat} (hk : l.length < k) : s_Width.f k l = some (widthW l) := ref_width_l l hl k 0 (Nat.zero_le _) hk
def kOf (n : Int) : Int := wrap64 (Int.tmod (IntKind.u64.wrap n) 100000)
theorem kOf_range (n : Int) : 0 ≤ kOf n ∧ kOf n < 100000 := by
 unfold kOf
 rw [IntKind.wrap_u64, Int.tmod_eq_emod_of_nonneg (by omega)]
 unfold wrap64
 omega
def letter (c : Int) : ByteArray := (⟨#[97, 98, 99, 100, 101, 102, 103, 104]⟩ : ByteArray).extract c.toNat (wrap64 (c + 1)).toNat
def boxRQ (r q : Int) : S33 :=
 if r = 0 ∨ r = 1 ∨ r = 2 then ⟨1, Int.tmod q 20, 0, 10, ⟨#[]⟩, ⟨#[]⟩, []⟩
 else if r = 3 ∨ r = 4 then ⟨5, 0, 0, 0, ⟨#[]⟩, ⟨#[]⟩, []⟩
 else if r = 5 then ⟨1, 5, 0, 10, ⟨#[126]⟩, ⟨#[]⟩, []⟩
 else if r = 6 then ⟨2, wrap64 (Int.tmod q 31 - 15), 0, 0, ⟨#[]⟩, ⟨#[]⟩, []⟩
 else if r = 7 then ⟨6, Int.tmod q 10, 0, 0, ⟨#[]⟩, ⟨#[]⟩, []⟩
 else ⟨0, wrap64 (5 + Int.tmod q 12), 0, 10, letter (Int.tmod q 8), ⟨#[]⟩, []⟩
def boxOf (n : Int) : S33 := boxRQ (Int.tmod (kOf n) 12) (wrap64 (Int.tdiv (kOf n) 12))
def rowL (l : List Int) : List S33 := (l.take 120).map boxOf
theorem rd_at {l : List Int} {j : Nat} {x : Int} (h : l[j]? = some x) : rd l (j : Int) = x := by
 unfold rd
 rw [Int.toNat_natCast, List.getD_eq_getElem?_getD, h]
 rfl
theorem row_step (l : List Int) {j : Nat} {n : Int} (h : l[j]? = some n) : (l.take (j + 1)).map boxOf = (l.take j).map boxOf ++ [boxOf n] := by
 obtain ⟨hj, rfl⟩ := List.getElem?_eq_some_iff.1 h
 rw [List.take_succ_eq_append_getElem hj, List.map_append]
 rfl
theorem row_one (l : List Int) (acc : List S33) (j kk r : Int) (R : List S33) (k : Nat) (hr0 : 0 ≤ r) (hr1 : r < 12) (hlen : acc.length < 1599289640401)
  (hc0 : 0 ≤ Int.tmod (wrap64 (Int.tdiv kk 12)) 8) (hc1 : Int.tmod (wrap64 (Int.tdiv kk 12)) 8 ≤ wrap64 (Int.tmod (wrap64 (Int.tdiv kk 12)) 8 + 1)) (hc2 : wrap64 (Int.tmod (wrap64 (Int.tdiv kk 12)) 8 + 1) ≤ 8)
  (ih1 : w_Row.l0 (k + 1) l (acc ++ [boxRQ r (wrap64 (Int.tdiv kk 12))]) (wrap64 (j + 1)) = some R) (ih2 : w_Row.l0 k l (acc ++ [boxRQ r (wrap64 (Int.tdiv kk 12))]) (wrap64 (j + 1)) = some R) :
  (if r = 0 then w_Row.j2 (k + 2) l acc j kk r (r == 0) else if r = 1 then w_Row.j2 (k + 2) l acc j kk r (r == 1) else w_Row.j2 (k + 2) l acc j kk r (r == 2)) = some R := by
 have : r = 0 ∨ r = 1 ∨ r = 2 ∨ r = 3 ∨ r = 4 ∨ r = 5 ∨ r = 6 ∨ r = 7 ∨ r = 8 ∨ r = 9 ∨ r = 10 ∨ r = 11 := by omega
 rcases this with rfl | rfl | rfl | rfl | rfl | rfl | rfl | rfl | rfl | rfl | rfl | rfl
 ·rw [if_pos rfl]; unfold w_Row.j2; rw [if_pos (by decide)]
  show (if acc.length < 1599289640401 then _ else none) = _
  rw [if_pos hlen]; exact ih1
 ·rw [if_neg (by decide), if_pos rfl]; unfold w_Row.j2; rw [if_pos (by decide)]
  show (if acc.length < 1599289640401 then _ else none) = _
  rw [if_pos hlen]; exact ih1
 ·rw [if_neg (by decide), if_neg (by decide)]; unfold w_Row.j2; rw [if_pos (by decide)]
  show (if acc.length < 1599289640401 then _ else none) = _
  rw [if_pos hlen]; exact ih1
 ·rw [if_neg (by decide), if_neg (by decide)]; unfold w_Row.j2; rw [if_neg (by decide), if_pos rfl]; unfold w_Row.j3; rw [if_pos (by decide), if_pos hlen]; exact ih2
 ·rw [if_neg (by decide), if_neg (by decide)]; unfold w_Row.j2; rw [if_neg (by decide), if_neg (by decide)]; unfold w_Row.j3; rw [if_pos (by decide), if_pos hlen]; exact ih2
 ·rw [if_neg (by decide), if_neg (by decide)]; unfold w_Row.j2; rw [if_neg (by decide), if_neg (by decide)]; unfold w_Row.j3; rw [if_neg (by decide), if_pos rfl, if_pos hlen]; exact ih2
 ·rw [if_neg (by decide), if_neg (by decide)]; unfold w_Row.j2; rw [if_neg (by decide), if_neg (by decide)]; unfold w_Row.j3; rw [if_neg (by decide), if_neg (by decide), if_pos rfl, if_pos hlen]; exact ih2
 ·rw [if_neg (by decide), if_neg (by decide)]; unfold w_Row.j2; rw [if_neg (by decide), if_neg (by decide)]; unfold w_Row.j3; rw [if_neg (by decide), if_neg (by decide), if_neg (by decide), if_pos rfl, if_pos hlen]; exact ih2
 all_goals (rw [if_neg (by decide), if_neg (by decide)]; unfold w_Row.j2; rw [if_neg (by decide), if_neg (by decide)]; unfold w_Row.j3; rw [if_neg (by decide), if_neg (by decide), if_neg (by decide), if_neg (by decide), if_pos hc0, if_pos hc1, if_pos hc2, if_pos hlen]; exact ih2)
theorem row_l (l : List Int) : ∀ (m j k : Nat), j ≤ l.length → j ≤ 120 → 120 = m + j → 4 * m + 2 ≤ k → w_Row.l0 k l ((l.take j).map boxOf) (j : Int) = some (rowL l)
 | m, j, 0, _, _, _, h => by omega
 | m, j, 1, _, _, _, h => by omega
 | m, j, k + 2, h1, h2, h3, h4 => by
  unfold w_Row.l0
  by_cases hj : j < l.length
  ·rw [if_pos (by omega)]
   by_cases hj2 : j < 120
   ·rw [show decide ((j : Int) < 120) = true from decide_eq_true (by omega)]
    unfold w_Row.j1
    rw [if_pos rfl, if_pos (by omega), if_pos (by omega)]
    obtain ⟨n, hn⟩ : ∃ n, l[j]? = some n := ⟨_, List.getElem?_eq_getElem hj⟩
    rw [rd_at hn, show wrap64 (Int.tmod (IntKind.u64.wrap n) 100000) = kOf n from rfl]
    obtain ⟨m, rfl⟩ : ∃ m', m = m' + 1 := ⟨m - 1, by omega⟩
    obtain ⟨k, rfl⟩ : ∃ k', k = k' + 4 := ⟨k - 4, by omega⟩
    have hk := kOf_range n
    have ih := row_l l m (j + 1) (k + 2) (by omega) (by omega) (by omega) (by omega)
    have ih3 := row_l l m (j + 1) (k + 3) (by omega) (by omega) (by omega) (by omega)
    rw [row_step l hn] at ih ih3
    have hlen : ((l.take j).map boxOf).length < 1599289640401 := by rw [List.length_map, List.length_take]; omega
    have h12 : 0 ≤ Int.tmod (kOf n) 12 ∧ Int.tmod (kOf n) 12 < 12 := by rw [Int.tmod_eq_emod_of_nonneg hk.1]; omega
    have hq0 : 0 ≤ wrap64 (Int.tdiv (kOf n) 12) ∧ wrap64 (Int.tdiv (kOf n) 12) < 100000 := by rw [Int.tdiv_eq_ediv_of_nonneg hk.1]; unfold wrap64; omega
    have hc : 0 ≤ Int.tmod (wrap64 (Int.tdiv (kOf n) 12)) 8 ∧ Int.tmod (wrap64 (Int.tdiv (kOf n) 12)) 8 < 8 := by rw [Int.tmod_eq_emod_of_nonneg hq0.1]; omega
    refine row_one l _ _ _ _ (rowL l) (k + 2) h12.1 h12.2 hlen hc.1 (by have h := hc; revert h; generalize Int.tmod (wrap64 (Int.tdiv (kOf n) 12)) 8 = c; intro h; unfold wrap64; omega) (by have h := hc; revert h; generalize Int.tmod (wrap64 (Int.tdiv (kOf n) 12)) 8 = c; intro h; unfold wrap64; omega) ?_ ?_
    ·rw [w64_succ (by omega)]; exact ih3
    ·rw [w64_succ (by omega)]; exact ih
   ·rw [show decide ((j : Int) < 120) = false from decide_eq_false (by omega)]
    unfold w_Row.j1
    rw [if_neg (by decide)]
    unfold rowL
    rw [show j = 120 by omega]
  ·rw [if_neg (by omega)]
   unfold w_Row.j1
   rw [if_neg (by decide)]
   unfold rowL
   rw [List.take_of_length_le (by omega), List.take_of_length_le (by omega)]
theorem row_f (l : List Int) {k : Nat} (hk : 482 ≤ k) : w_Row.f k l = some (rowL l) := row_l l 120 0 k (Nat.zero_le _) (by omega) rfl hk
theorem rowL_len (l : List Int) : (rowL l).length ≤ 120 := by
 unfold rowL
 rw [List.length_map, List.length_take]
 omega
theorem letter_all : (List.range 8).all (fun (c : Nat) => namedB (letter (c : Int))) = true := by kernel_rfl
theorem letter_ok (c : Int) (h0 : 0 ≤ c) (h1 : c < 8) : namedB (letter c) = true := by
 have h := List.all_eq_true.1 letter_all c.toNat (List.mem_range.2 (by omega))
 rw [Int.toNat_of_nonneg h0] at h
 exact h
theorem boxOf_ok (n : Int) : validB (boxOf n) = true ∧ (boxOf n).f6 = [] ∧ (-15 ≤ (boxOf n).f1 ∧ (boxOf n).f1 ≤ 20) := by
  have hk := kOf_range n
  have hr : 0 ≤ Int.tmod (kOf n) 12 ∧ Int.tmod (kOf n) 12 < 12 := by rw [Int.tmod_eq_emod_of_nonneg hk.1]; omega
  have hq : 0 ≤ wrap64 (Int.tdiv (kOf n) 12) ∧ wrap64 (Int.tdiv (kOf n) 12) < 100000 := by rw [Int.tdiv_eq_ediv_of_nonneg hk.1]; unfold wrap64; omega
  have h20 : 0 ≤ Int.tmod (wrap64 (Int.tdiv (kOf n) 12)) 20 ∧ Int.tmod (wrap64 (Int.tdiv (kOf n) 12)) 20 < 20 := by rw [Int.tmod_eq_emod_of_nonneg hq.1]; omega
  have h31 : 0 ≤ Int.tmod (wrap64 (Int.tdiv (kOf n) 12)) 31 ∧ Int.tmod (wrap64 (Int.tdiv (kOf n) 12)) 31 < 31 := by rw [Int.tmod_eq_emod_of_nonneg hq.1]; omega
  have h10 : 0 ≤ Int.tmod (wrap64 (Int.tdiv (kOf n) 12)) 10 ∧ Int.tmod (wrap64 (Int.tdiv (kOf n) 12)) 10 < 10 := by rw [Int.tmod_eq_emod_of_nonneg hq.1]; omega
  have h12 : 0 ≤ Int.tmod (wrap64 (Int.tdiv (kOf n) 12)) 12 ∧ Int.tmod (wrap64 (Int.tdiv (kOf n) 12)) 12 < 12 := by rw [Int.tmod_eq_emod_of_nonneg hq.1]; omega
  have h8 : 0 ≤ Int.tmod (wrap64 (Int.tdiv (kOf n) 12)) 8 ∧ Int.tmod (wrap64 (Int.tdiv (kOf n) 12)) 8 < 8 := by rw [Int.tmod_eq_emod_of_nonneg hq.1]; omega
  have hcol : colourB ⟨#[]⟩ = true := by kernel_rfl
  unfold boxOf
  generalize Int.tmod (kOf n) 12 = r at *
  generalize wrap64 (Int.tdiv (kOf n) 12) = q at *
  have hv : ∀ x : S33, -15 ≤ x.f1 → x.f1 ≤ 20 → x.f2 = 0 → 0 ≤ x.f3 → x.f5 = ⟨#[]⟩ → validB x = (if x.f0 = 0 then namedB x.f4 && (x.f6.length == 0)
   else if x.f0 = 1 then ((x.f4.toList == []) || (x.f4.toList == [126])) && (x.f5.toList == []) && (x.f6.length == 0)
   else if x.f0 = 4 then (x.f2 == 0) && (x.f3 == 0) && (x.f4.size == 1) && strokeB x.f4 && decide (x.f6.length ≤ 40) && allI farV x.f6
   else if x.f0 = 5 then bareB x && (x.f4.toList == []) && (x.f1 == 0)
   else if x.f0 = 2 ∨ x.f0 = 3 ∨ x.f0 = 6 then bareB x && (x.f4.toList == [])
   else false) := fun x a1 a2 a3 a4 a5 => by
    unfold validB
    rw [decide_eq_false (by omega : ¬ x.f1 < -1000000), decide_eq_false (by omega : ¬ 1000000 < x.f1), decide_eq_false (by omega : ¬ x.f2 < 0), decide_eq_false (by omega : ¬ x.f3 < 0), a5, hcol]
    rfl
  have hmt : (⟨#[]⟩ : ByteArray).toList = [] := by kernel_rfl
  have htl : (⟨#[126]⟩ : ByteArray).toList = [126] := by kernel_rfl
  unfold boxRQ
  split
  · refine ⟨?_, rfl, by dsimp only; omega⟩
    rw [hv _ (by dsimp only; omega) (by dsimp only; omega) rfl (by dsimp only; omega) rfl]
    dsimp only
    rw [hmt]
    rfl
  · split
    · refine ⟨by kernel_rfl, rfl, by decide⟩
    · split
      · refine ⟨by kernel_rfl, rfl, by decide⟩
      · split
        · have e : -15 ≤ wrap64 (Int.tmod q 31 - 15) ∧ wrap64 (Int.tmod q 31 - 15) ≤ 20 := by unfold wrap64; omega
          refine ⟨?_, rfl, e⟩
          rw [hv _ e.1 e.2 rfl (by dsimp only; omega) rfl]
          dsimp only
          unfold bareB
          dsimp only
          rw [hmt]
          rfl
        · split
          · refine ⟨?_, rfl, by dsimp only; omega⟩
            rw [hv _ (by dsimp only; omega) (by dsimp only; omega) rfl (by dsimp only; omega) rfl]
            dsimp only
            unfold bareB
            dsimp only
            rw [hmt]
            rfl
          · have e : -15 ≤ wrap64 (5 + Int.tmod q 12) ∧ wrap64 (5 + Int.tmod q 12) ≤ 20 := by unfold wrap64; omega
            refine ⟨?_, rfl, e⟩
            rw [hv _ e.1 e.2 rfl (by dsimp only; omega) rfl]
            dsimp only
            rw [letter_ok _ h8.1 h8.2]
            rfl
end Go.Proofs.YteadghhmoggjnaaB
end
section
namespace Go.Proofs.YteadghhmoggjnaaB
open Go.RowKit
open Yteadghhmoggjnaa.Q (S33)
open YteadghhmoggjnaaW.PrintWords YteadghhmoggjnaaW.PrintLast
theorem rowL_mem {l : List Int} {x : S33} (h : x ∈ rowL l) : ∃ n, x = boxOf n := by
 unfold rowL at h
 obtain ⟨n, -, rfl⟩ := List.mem_map.1 h
 exact ⟨n, rfl⟩
end Go.Proofs.YteadghhmoggjnaaB
end
section
namespace Go.Proofs.YteadghhmoggjnaaB
open Go.RowKit
open Yteadghhmoggjnaa.Q
open YteadghhmoggjnaaW.PrintWords YteadghhmoggjnaaW.PrintLast
set_option maxHeartbeats 800000
def befB (l : List S33) (i j : Nat) : Bool := !(noneB solidG ((l.take j).take i))
def aftB (l : List S33) (i j : Nat) : Bool := !(noneB solidG ((l.take j).drop (i + 1)))
theorem none_snoc (p : S33 → Bool) (l : List S33) (x : S33) : noneB p (l ++ [x]) = (noneB p l && !(p x)) := by
 unfold noneB
 rw [List.all_append, List.all_cons, List.all_nil, Bool.and_true]
theorem befB_step {l : List S33} {i j : Nat} {x : S33} (h : l[j]? = some x) : befB l i (j + 1) = (befB l i j || (solidG x && decide (j < i))) := by
 obtain ⟨hj, rfl⟩ := List.getElem?_eq_some_iff.1 h
 unfold befB
 rw [List.take_take, List.take_take]
 by_cases hi : j < i
 ·rw [Nat.min_eq_right (by omega), Nat.min_eq_right (by omega), List.take_succ_eq_append_getElem hj, none_snoc, decide_eq_true hi]
  cases noneB solidG (l.take j) <;> cases solidG l[j] <;> rfl
 ·rw [Nat.min_eq_left (by omega), Nat.min_eq_left (by omega), decide_eq_false hi]
  simp
theorem aftB_step {l : List S33} {i j : Nat} {x : S33} (h : l[j]? = some x) : aftB l i (j + 1) = (aftB l i j || (solidG x && decide (j > i))) := by
 obtain ⟨hj, rfl⟩ := List.getElem?_eq_some_iff.1 h
 unfold aftB
 have hl : (l.take j).length = j := by rw [List.length_take]; omega
 rw [List.take_succ_eq_append_getElem hj]
 by_cases hi : j > i
 ·rw [List.drop_append_of_le_length (by omega), none_snoc, decide_eq_true hi]
  cases noneB solidG ((l.take j).drop (i + 1)) <;> cases solidG l[j] <;> rfl
 ·rw [List.drop_eq_nil_of_le (by rw [List.length_append, hl]; simp; omega), List.drop_eq_nil_of_le (by omega), decide_eq_false hi]
  simp
theorem solid_f (x : S33) : r_solid.f x.f0 x.f1 x.f2 x.f3 x.f4 x.f5 x.f6 = some (solidG x) := by
 unfold r_solid.f solidG
 by_cases h : x.f0 = 1
 ·rw [if_pos h, h]; rfl
 ·rw [if_neg h]
  have : (x.f0 != 1) = true := bne_iff_ne.2 h
  rw [this, Bool.true_and]
theorem grow_l1 (l : List S33) (hl : l.length ≤ 1000000) (acc : List Int) (hacc : acc.length < 17592186044416) (i : Nat) (R : Option (List Int)) (k0 : Nat)
  (hR : r_Growing.l0 k0 l (if (befB l i l.length && aftB l i l.length) = true then acc ++ [(i : Int)] else acc) (wrap64 ((i : Int) + 1)) = R) :
  ∀ (d j : Nat), j + d = l.length → r_Growing.l1 (k0 + 1 + d) l acc (i : Int) (befB l i j) (aftB l i j) (j : Int) = R
 | 0, j, h => by
  obtain rfl : j = l.length := by omega
  rw [Nat.add_zero, r_Growing.l1, if_neg (by omega)]
  cases hb : befB l i l.length <;> cases ha : aftB l i l.length <;> rw [hb, ha] at hR
  ·rw [if_neg (by decide)]; exact hR
  ·rw [if_neg (by decide)]; exact hR
  ·rw [if_pos rfl, if_neg (by decide)]; exact hR
  ·rw [if_pos rfl, if_pos rfl, if_pos hacc]; exact hR
 | d + 1, j, h => by
  have hj : j < l.length := by omega
  obtain ⟨x, hx⟩ : ∃ x, l[j]? = some x := ⟨_, List.getElem?_eq_getElem hj⟩
  have ih := grow_l1 l hl acc hacc i R k0 hR d (j + 1) (by omega)
  rw [befB_step hx, aftB_step hx] at ih
  rw [show k0 + 1 + (d + 1) = (k0 + 1 + d) + 1 by omega, r_Growing.l1, if_pos (by omega), if_pos (by omega), rdT_at hx, solid_f, Option.bind_some, w64_succ (by omega)]
  have e1 : decide ((j : Int) < (i : Int)) = decide (j < i) := by rw [decide_eq_decide]; omega
  have e2 : decide ((j : Int) > (i : Int)) = decide (j > i) := by rw [decide_eq_decide]; omega
  rw [e1, e2]
  cases hs : solidG x <;> rw [hs] at ih <;> cases hb : befB l i j <;> cases ha : aftB l i j <;> rw [hb, ha] at ih <;> simpa using ih
theorem grow_l0 (l : List S33) (hl : l.length ≤ 1000000) : ∀ (m i k : Nat), i + m = l.length → (l.length + 4) * m + 1 ≤ k → r_Growing.l0 k l (growTo l i) (i : Int) = some (growL l)
 | m, i, 0, _, h => by omega
 | 0, i, k + 1, h, _ => by
  obtain rfl : i = l.length := by omega
  rw [r_Growing.l0, if_neg (by omega)]
  rfl
 | m + 1, i, k + 1, h, hk => by
  have hi : i < l.length := by omega
  have hmul : (l.length + 4) * (m + 1) = (l.length + 4) * m + (l.length + 4) := Nat.mul_succ _ _
  obtain ⟨x, hx⟩ : ∃ x, l[i]? = some x := ⟨_, List.getElem?_eq_getElem hi⟩
  have hacc : (growTo l i).length < 17592186044416 := by have := growTo_len l i; omega
  have ih : ∀ k', (l.length + 4) * m + 1 ≤ k' → r_Growing.l0 k' l (growTo l (i + 1)) (wrap64 ((i : Int) + 1)) = some (growL l) := fun k' h' => by
   rw [w64_succ (by omega)]
   exact grow_l0 l hl m (i + 1) k' (by omega) h'
  obtain ⟨k2, rfl⟩ : ∃ k2, k = k2 + 1 := ⟨k - 1, by omega⟩
  have hno : grw l i = false → r_Growing.j1 (k2 + 1) l (growTo l i) (i : Int) true = some (growL l) := fun hg => by
   rw [r_Growing.j1, if_pos rfl]
   have := ih k2 (by omega)
   rw [growTo_no hg] at this
   exact this
  have hyes : lastB l i = true → r_Growing.j1 (k2 + 1) l (growTo l i) (i : Int) false = some (growL l) := fun hb => by
   rw [r_Growing.j1, if_neg (by decide)]
   obtain ⟨k3, rfl⟩ : ∃ k3, k2 = k3 + 1 + l.length := ⟨k2 - 1 - l.length, by omega⟩
   have e : grw l i = (befB l i l.length && aftB l i l.length) := by
    unfold grw befB aftB
    rw [hb, List.take_length, Bool.true_and]
   have hb0 : befB l i 0 = false := by unfold befB noneB; simp
   have ha0 : aftB l i 0 = false := by unfold aftB noneB; simp
   have main := grow_l1 l hl (growTo l i) hacc i (some (growL l)) k3 (by
    rw [← e]
    cases hg : grw l i
    ·have := ih k3 (by omega)
     rw [growTo_no hg] at this
     exact this
    ·have := ih k3 (by omega)
     rw [growTo_yes hg] at this
     exact this) l.length 0 (by omega)
   rw [hb0, ha0] at main
   exact main
  rw [r_Growing.l0, if_pos (by omega), if_pos (by omega), rdT_at hx]
  by_cases h1 : x.f0 = 1
  ·have hsx : spaceB x = true := by unfold spaceB; rw [h1]; rfl
   rw [if_pos h1, w64_succ (by omega)]
   by_cases h2 : i + 1 < l.length
   ·rw [if_pos (by omega), if_pos (by omega)]
    obtain ⟨y, hy⟩ : ∃ y, l[i + 1]? = some y := ⟨_, List.getElem?_eq_getElem h2⟩
    rw [rdT_at hy]
    have hm := lastB_mid hx hsx hy
    cases hsy : (y.f0 == 1)
    ·exact hyes (by rw [hm]; unfold spaceB; rw [hsy]; rfl)
    ·exact hno (by unfold grw; rw [hm]; unfold spaceB; rw [hsy]; rfl)
   ·rw [if_neg (by omega)]
    exact hyes (lastB_end hx hsx (by omega))
  ·rw [if_neg h1]
   exact hno (by unfold grw; rw [lastB_no hx (by unfold spaceB; exact beq_eq_false_iff_ne.2 h1)]; rfl)
theorem ref_growing (l : List S33) (hl : l.length ≤ 1000000) {k : Nat} (hk : (l.length + 4) * l.length + 1 ≤ k) : r_Growing.f k l = some (growL l) := by
 unfold r_Growing.f
 exact grow_l0 l hl l.length 0 k (by omega) hk
end Go.Proofs.YteadghhmoggjnaaB
end
section
namespace Go.Proofs.YteadghhmoggjnaaB
open Go.RowKit
open Yteadghhmoggjnaa.Q (S33)
set_option maxHeartbeats 800000
theorem growTo_mem {l : List S33} {k : Nat} {p : Int} (h : p ∈ growTo l k) : ∃ q : Nat, p = q ∧ q < k ∧ grw l q = true := by
 unfold growTo at h
 obtain ⟨q, hq, rfl⟩ := List.mem_map.1 h
 have := List.mem_filter.1 hq
 exact ⟨q, rfl, List.mem_range.1 this.1, this.2⟩
theorem growL_mem {l : List S33} {p : Int} (h : p ∈ growL l) : ∃ q x, p = ((q : Nat) : Int) ∧ l[q]? = some x ∧ x.f0 = 1 := by
 obtain ⟨q, rfl, hq, hg⟩ := growTo_mem h
 obtain ⟨x, hx⟩ : ∃ x, l[q]? = some x := ⟨_, List.getElem?_eq_getElem hq⟩
 refine ⟨q, x, rfl, hx, ?_⟩
 cases hs : spaceB x with
 | true => unfold spaceB at hs; simpa using hs
 | false =>
  unfold grw at hg
  rw [lastB_no hx hs] at hg
  cases hg
theorem growL_nodup (l : List S33) : (growL l).Nodup := by
 unfold growL growTo
 rw [List.Nodup, List.pairwise_map]
 exact ((List.nodup_range).sublist List.filter_sublist).imp (fun h e => h (by omega))
theorem growL_inj {l : List S33} {i k : Nat} {p : Int} (hi : (growL l)[i]? = some p) (hk : (growL l)[k]? = some p) : i = k := by
 obtain ⟨h1, e1⟩ := List.getElem?_eq_some_iff.1 hi
 obtain ⟨h2, e2⟩ := List.getElem?_eq_some_iff.1 hk
 have hp := List.pairwise_iff_getElem.1 (growL_nodup l)
 rcases Nat.lt_trichotomy i k with h | h | h
 ·exact absurd (e1.trans e2.symm) (hp i k h1 h2 h)
 ·exact h
 ·exact absurd (e2.trans e1.symm) (hp k i h2 h1 h)
section
variable (l : List S33) (each more : Int) (odd : Bool)
theorem spread_at (k : Nat) (hk : k ≤ (growL l).length) : (∀ i q x, i < k → (growL l)[i]? = some ((q : Nat) : Int) → l[q]? = some x → (spreadTo l (growL l) each more odd k)[q]? = some (grown each more (growL l).length odd i x)) ∧
  (∀ q : Nat, (∀ i, i < k → (growL l)[i]? ≠ some (q : Int)) → (spreadTo l (growL l) each more odd k)[q]? = l[q]?) := by
 induction k with
 | zero => exact ⟨fun i q x h => by omega, fun q _ => rfl⟩
 | succ k ih =>
  obtain ⟨ih1, ih2⟩ := ih (by omega)
  obtain ⟨p, hp⟩ : ∃ p, (growL l)[k]? = some p := ⟨_, List.getElem?_eq_getElem (by omega)⟩
  obtain ⟨q0, x0, rfl, hx0, -⟩ := growL_mem (List.mem_of_getElem? hp)
  have hs : spreadTo l (growL l) each more odd (k + 1) = (spreadTo l (growL l) each more odd k).modify q0 (grown each more (growL l).length odd k) := by
   show (match (growL l)[k]? with | some i => _ | none => _) = _
   rw [hp]
   rfl
  rw [hs]
  have h0 : (spreadTo l (growL l) each more odd k)[q0]? = some x0 := by
   rw [ih2 q0 (fun i hi e => by have := growL_inj e hp; omega), hx0]
  refine ⟨fun i q x hi hg hx => ?_, fun q hq => ?_⟩
  ·rw [List.getElem?_modify]
   by_cases hik : i = k
   ·subst hik
    rw [hp] at hg
    have : q0 = q := by injection hg with hg; omega
    subst this
    rw [hx0] at hx
    injection hx with hx
    subst hx
    rw [h0]
    show some (if q0 = q0 then _ else _) = _
    rw [if_pos rfl]
   ·have hne : q0 ≠ q := by
     rintro rfl
     exact hik (growL_inj hg hp)
    rw [ih1 i q x (by omega) hg hx]
    show some (if q0 = q then _ else _) = _
    rw [if_neg hne]
  ·have hne : q0 ≠ q := by
    rintro rfl
    exact hq k (by omega) hp
   rw [List.getElem?_modify, ih2 q (fun i hi => hq i (by omega))]
   cases l[q]? with
   | none => rfl
   | some y =>
    show some (if q0 = q then _ else _) = _
    rw [if_neg hne]
end
end Go.Proofs.YteadghhmoggjnaaB
end
end
section
section
set_option maxHeartbeats 8000000
set_option maxRecDepth 100000
namespace Go.Proofs.YteadghhmoggjnaaB
open Go.RowKit
open Yteadghhmoggjnaa.Q (S33)
theorem hyph_len (l : List S33) (h : S33) : (hyph l h).length ≤ l.length + 1 := by
 unfold hyph
 split
 ·omega
 ·rw [List.length_append]; exact Nat.le_refl _
theorem hyph_mem {l : List S33} {h x : S33} (hx : x ∈ hyph l h) : x ∈ l ∨ x = h := by
 unfold hyph at hx
 split at hx
 ·exact .inl hx
 ·exact (List.mem_append.1 hx).imp id List.mem_singleton.1
theorem restL_mem {l : List S33} {x : S33} (hx : x ∈ restL l) : x ∈ l := List.dropWhile_subset _ hx
def PartsOf (l : List S33) (h : S33) (r : List S33 × List S33 × Bool) : Prop := r.1.length ≤ l.length + 1 ∧ (∀ x ∈ r.1, x ∈ l ∨ x = h) ∧ r.2.1.length ≤ l.length ∧ ∀ x ∈ r.2.1, x ∈ l
theorem parts_all (l : List S33) (h : S33) (b : Bool) : PartsOf l h (l, [], b) := ⟨by simp, fun x hx => .inl hx, by simp, fun x hx => by cases hx⟩
theorem parts_cut (l : List S33) (h : S33) (a k : Nat) : PartsOf l h (hyph (l.take a) h, restL (l.drop k), true) :=
  ⟨by have := hyph_len (l.take a) h; have h2 : (l.take a).length ≤ l.length := List.length_take_le' _ _; show (hyph (l.take a) h).length ≤ _; omega,
   fun x hx => (hyph_mem hx).imp List.mem_of_mem_take id, (by have := restL_le (l.drop k); have h2 : (l.drop k).length ≤ l.length := (by rw [List.length_drop]; omega); show (restL (l.drop k)).length ≤ _; omega), fun x hx => List.mem_of_mem_drop (restL_mem hx)⟩
theorem parts_at (l : List S33) (h : S33) (a k : Nat) : PartsOf l h (l.take a, restL (l.drop k), true) :=
  ⟨by have h2 : (l.take a).length ≤ l.length := List.length_take_le' _ _; show (l.take a).length ≤ _; omega,
   fun x hx => .inl (List.mem_of_mem_take hx), (parts_cut l h a k).2.2.1, (parts_cut l h a k).2.2.2⟩
theorem parts_ans (l : List S33) (len : Int) (h : S33) (i : Nat) : PartsOf l h (ansAt l len h i) := by
 unfold ansAt
 split
 ·exact parts_cut l h _ _
 ·split
  ·exact parts_at l h _ _
  ·split
   ·exact parts_cut l h _ _
   ·exact parts_at l h _ _
theorem parts_go (l : List S33) (len : Int) (h : S33) : ∀ f i, PartsOf l h (takeGo l len h f i)
 | 0, _ => parts_all l h false
 | f + 1, i => by
  unfold takeGo
  split
  ·split
   ·exact parts_all l h false
   ·split
    ·exact parts_go l len h f _
    ·exact parts_ans l len h i
  ·exact parts_all l h false
theorem parts_take (l : List S33) (len : Int) (h : S33) : PartsOf l h (takeL l len h) := by
 obtain ⟨h1, h2, h3, h4⟩ := parts_go (restL l) len h ((restL l).length + 1) 0
 have hl := restL_le l
 exact ⟨by unfold takeL; omega, fun x hx => (h2 x hx).imp restL_mem id, by unfold takeL; omega, fun x hx => restL_mem (h4 x hx)⟩
end Go.Proofs.YteadghhmoggjnaaB
end
section
namespace Go.Proofs.Yteadghhmoggjnaa.Q
open Go.RowKit YteadghhmoggjnaaW.PrintWords YteadghhmoggjnaaW.PrintLast YteadghhmoggjnaaW.PrintMore
attribute [local go_sem] max2_int max_two
def fill_check.f (l0 : List (S33)) (l1 : List Int) : Option (Int) := some (Go.Proofs.YteadghhmoggjnaaB.checkI l0 l1)
theorem fill_check.calls (A0 : Option Addr) (c0 : Nat) (l0 : List (S33)) (A1 : Option Addr) (c1 : Nat) (l1 : List Int) (r : Int) (w : World) (hr0 : Kd.C k33 w A0 l0.length l0) (hc0 : l0.length ≤ c0) (hr1 : Kd.C (Kd.int .i64) w A1 l1.length l1) (hc1 : l1.length ≤ c1) (h : fill_check.f l0 l1 = some r) :
  Calls Try.prog 26 #[.slice A0 l0.length c0, .slice A1 l1.length c1] w fun e w' => e = .returned (.int .i64 r) ∧ Below w.heap.size w w' := by
 obtain rfl := Option.some.inj h
 exact Go.Proofs.YteadghhmoggjnaaB.check_any A0 _ c0 l0 A1 _ c1 l1 (fun _ => True) w (Go.Proofs.YteadghhmoggjnaaB.rd_boxes hr0) hr0.2.1 (Go.Proofs.YteadghhmoggjnaaB.lens_of_C hr0) (Go.Proofs.YteadghhmoggjnaaB.rd_ints hr1) hr1.2.1
end Go.Proofs.Yteadghhmoggjnaa.Q
end
section
namespace Go.Proofs.Yteadghhmoggjnaa.Q
open Go.RowKit YteadghhmoggjnaaW.PrintWords YteadghhmoggjnaaW.PrintLast YteadghhmoggjnaaW.PrintMore
attribute [local go_sem] max2_int max_two
def fill_own.f (l0 : List (S33)) : Option ((List (S33))) := if Go.Proofs.YteadghhmoggjnaaB.okL l0 = true then some l0 else none
theorem fill_own.calls (A0 : Option Addr) (c0 : Nat) (l0 : List (S33)) (r : List (S33)) (w : World) (hr0 : Kd.C k33 w A0 l0.length l0) (hc0 : l0.length ≤ c0) (h : fill_own.f l0 = some r) :
  Calls Try.prog 32 #[.slice A0 l0.length c0] w fun e w' => ∃ v0_ : Value, e = .returned (v0_) ∧ Kd.S k33 33 w' w.heap.size (fun _ => True) v0_ r ∧ Below w.heap.size w w' := by
 obtain ⟨h1, rfl⟩ := Go.Proofs.YteadghhmoggjnaaB.of_if h
 exact Go.Proofs.YteadghhmoggjnaaB.fill_own_any A0 _ c0 l0 w hr0 (Go.Proofs.YteadghhmoggjnaaB.okL_len h1) (Go.Proofs.YteadghhmoggjnaaB.okL_small h1)
end Go.Proofs.Yteadghhmoggjnaa.Q
end
section
namespace Go.Proofs.Yteadghhmoggjnaa.Q
open Go.RowKit YteadghhmoggjnaaW.PrintWords YteadghhmoggjnaaW.PrintLast YteadghhmoggjnaaW.PrintMore
attribute [local go_sem] max2_int max_two
def glyph_Valid.f (a0_0 : Int) (a0_1 : Int) (a0_2 : Int) (a0_3 : Int) (a0_4 : ByteArray) (a0_5 : ByteArray) (l0_6 : List Int) : Option (Bool) := some (Go.Proofs.YteadghhmoggjnaaB.validB ⟨a0_0, a0_1, a0_2, a0_3, a0_4, a0_5, l0_6⟩)
theorem glyph_Valid.calls (a0_0 : Int) (a0_1 : Int) (a0_2 : Int) (a0_3 : Int) (a0_4 : ByteArray) (a0_5 : ByteArray) (A0_6 : Option Addr) (c0_6 : Nat) (l0_6 : List Int) (r : Bool) (w : World) (hr0_6 : Kd.C (Kd.int .i64) w A0_6 l0_6.length l0_6) (hc0_6 : l0_6.length ≤ c0_6) (h : glyph_Valid.f a0_0 a0_1 a0_2 a0_3 a0_4 a0_5 l0_6 = some r) :
  Calls Try.prog 55 #[.agg #[.int .i64 a0_0, .int .i64 a0_1, .int .i64 a0_2, .int .i64 a0_3, .string a0_4, .string a0_5, .slice A0_6 l0_6.length c0_6]] w fun e w' => e = .returned (.bool r) ∧ Below w.heap.size w w' := by
 obtain rfl := Option.some.inj h
 exact Go.Proofs.YteadghhmoggjnaaB.Valid_any ⟨a0_0, a0_1, a0_2, a0_3, a0_4, a0_5, l0_6⟩ A0_6 c0_6 w (Go.Proofs.YteadghhmoggjnaaB.rd_ints hr0_6) hr0_6.2.1
end Go.Proofs.Yteadghhmoggjnaa.Q
end
section
namespace Go.Proofs.Yteadghhmoggjnaa.Q
open Go.RowKit YteadghhmoggjnaaW.PrintWords YteadghhmoggjnaaW.PrintLast YteadghhmoggjnaaW.PrintMore
attribute [local go_sem] max2_int max_two
def fill_hyphens.f (a0_0 : Int) (a0_1 : Int) (a0_2 : Int) (a0_3 : Int) (a0_4 : ByteArray) (a0_5 : ByteArray) (l0_6 : List Int) : Option (Bool) := (glyph_Valid.f a0_0 a0_1 a0_2 a0_3 a0_4 a0_5 l0_6).bind fun t145 => (if t145 = true then (if a0_0 = 0 then (some true) else (some (a0_0 == 5))) else (some false))
theorem fill_hyphens.calls (a0_0 : Int) (a0_1 : Int) (a0_2 : Int) (a0_3 : Int) (a0_4 : ByteArray) (a0_5 : ByteArray) (A0_6 : Option Addr) (c0_6 : Nat) (l0_6 : List Int) (r : Bool) (w : World) (hr0_6 : Kd.C (Kd.int .i64) w A0_6 l0_6.length l0_6) (hc0_6 : l0_6.length ≤ c0_6) (h : fill_hyphens.f a0_0 a0_1 a0_2 a0_3 a0_4 a0_5 l0_6 = some r) :
  Calls Try.prog 38 #[.agg #[.int .i64 a0_0, .int .i64 a0_1, .int .i64 a0_2, .int .i64 a0_3, .string a0_4, .string a0_5, .slice A0_6 l0_6.length c0_6]] w fun e w' => e = .returned (.bool r) ∧ Below w.heap.size w w' := by
 have hu33 := Try.underlying33
 have HR0_6 := o_ hr0_6
 have HC0_6 := o_ hc0_6
 clear hr0_6 hc0_6
 have HB := o_ (Below.refl w.heap.size w)
 have H : ((glyph_Valid.f a0_0 a0_1 a0_2 a0_3 a0_4 a0_5 l0_6).bind fun t145 => (if t145 = true then (if a0_0 = 0 then (some true) else (some (a0_0 == 5))) else (some false))) = some r := h
 clear h
 obtain ⟨t145, A20, H⟩ := qb H
 try dsimp only at H
 have A2 := o_ A20
 clear A20
 by_cases c3 : t145 = true
 rotate_left
 ·replace c3 := Bool.eq_false_iff.mpr c3
  subst c3
  have H1 : (some false) = some r := by rw [if_neg (show ¬ (false = true) by decide)] at H; exact H
  clear H
  have H := H1
  clear H1
  obtain rfl := Option.some.inj H
  go_enter Try.func38, Try.ntmps38
  go_wp2_with (first | ((with_reducible refine gate_dst (N := 1) rfl ?_); refine box_event ?hg (N := 1) ?hd (cs := #[.int .i64 a0_0, .int .i64 a0_1, .int .i64 a0_2, .int .i64 a0_3, .string a0_4, .string a0_5, .slice A0_6 l0_6.length c0_6]) (t := 33) ?hr ?_; (case hd => rfl); (case hg => rfl); (case hr => first | (go_simp; done) | (go_simp; rfl)); intro gb144 hg w13 hbox hb; have n0_ := o_ (below_step (bl HB) hb); have n1_ := o_ (hbox); have n2_ := o_ ((by rw [hg]; exact (below_size (bl HB)) : w.heap.size ≤ gb144)); have n3_ := o_ ((by rw [hg]; exact (below_size (bl HB)) : w.heap.size ≤ gb144)); clear HB; have HB := n0_; have BK144 := n1_; have GW144 := n2_; have GE144 := n3_; clear n0_ n1_ n2_ n3_; clear hb hbox hg; have z14 := box7 BK144) | (go_at_call 55; (with_reducible refine (glyph_Valid.calls a0_0 a0_1 a0_2 a0_3 a0_4 a0_5 _ _ l0_6 false _ ?side1 ?side2 A2.out).mono ?_); (case side1 => exact Kd.C_below HR0_6.out (bl HB)); (case side2 => exact HC0_6.out); rintro e w15 ⟨rfl, hb⟩; have n0_ := o_ (blk_below (g := gb144) (o := .cells #[.int .i64 a0_0, .int .i64 a0_1, .int .i64 a0_2, .int .i64 a0_3, .string a0_4, .string a0_5, .slice A0_6 l0_6.length c0_6] 33 (0, 0)) (bu BK144) hb); have n1_ := o_ (below_step (bl HB) hb); clear BK144; clear HB; have BK144 := n0_; have HB := n1_; clear n0_ n1_; (try clear hb)))
  go_ret
  exact ⟨by first | rfl | (simp [*] <;> rfl), bl HB⟩
 subst c3
 have H1 : (if a0_0 = 0 then (some true) else (some (a0_0 == 5))) = some r := by rw [if_pos rfl] at H; exact H
 clear H
 have H := H1
 clear H1
 by_cases c4 : a0_0 = 0
 rotate_left
 ·rw [if_neg c4] at H
  have c4b0 : (a0_0 == 0) = false := beq_eq_false_iff_ne.mpr c4
  have c4b1 : (a0_0 != 0) = true := bne_iff_ne.mpr c4
  obtain rfl := Option.some.inj H
  go_enter Try.func38, Try.ntmps38
  go_wp2_with (first | ((with_reducible refine gate_dst (N := 1) rfl ?_); refine box_event ?hg (N := 1) ?hd (cs := #[.int .i64 a0_0, .int .i64 a0_1, .int .i64 a0_2, .int .i64 a0_3, .string a0_4, .string a0_5, .slice A0_6 l0_6.length c0_6]) (t := 33) ?hr ?_; (case hd => rfl); (case hg => rfl); (case hr => first | (go_simp; done) | (go_simp; rfl)); intro gb144 hg w9 hbox hb; have n0_ := o_ (below_step (bl HB) hb); have n1_ := o_ (hbox); have n2_ := o_ ((by rw [hg]; exact (below_size (bl HB)) : w.heap.size ≤ gb144)); have n3_ := o_ ((by rw [hg]; exact (below_size (bl HB)) : w.heap.size ≤ gb144)); clear HB; have HB := n0_; have BK144 := n1_; have GW144 := n2_; have GE144 := n3_; clear n0_ n1_ n2_ n3_; clear hb hbox hg; have z10 := box7 BK144) | (go_at_call 55; (with_reducible refine (glyph_Valid.calls a0_0 a0_1 a0_2 a0_3 a0_4 a0_5 _ _ l0_6 true _ ?side1 ?side2 A2.out).mono ?_); (case side1 => exact Kd.C_below HR0_6.out (bl HB)); (case side2 => exact HC0_6.out); rintro e w11 ⟨rfl, hb⟩; have n0_ := o_ (blk_below (g := gb144) (o := .cells #[.int .i64 a0_0, .int .i64 a0_1, .int .i64 a0_2, .int .i64 a0_3, .string a0_4, .string a0_5, .slice A0_6 l0_6.length c0_6] 33 (0, 0)) (bu BK144) hb); have n1_ := o_ (below_step (bl HB) hb); clear BK144; clear HB; have BK144 := n0_; have HB := n1_; clear n0_ n1_; (try clear hb); have z12 := box7 BK144))
  go_ret
  exact ⟨by first | rfl | (simp [*] <;> rfl), bl HB⟩
 rw [if_pos c4] at H
 have c4b0 : (a0_0 == 0) = true := beq_iff_eq.mpr c4
 have c4b1 : (a0_0 != 0) = false := bne_eq_false_iff_eq.mpr c4
 clear c4
 obtain rfl := Option.some.inj H
 go_enter Try.func38, Try.ntmps38
 go_wp2_with (first | ((with_reducible refine gate_dst (N := 1) rfl ?_); refine box_event ?hg (N := 1) ?hd (cs := #[.int .i64 a0_0, .int .i64 a0_1, .int .i64 a0_2, .int .i64 a0_3, .string a0_4, .string a0_5, .slice A0_6 l0_6.length c0_6]) (t := 33) ?hr ?_; (case hd => rfl); (case hg => rfl); (case hr => first | (go_simp; done) | (go_simp; rfl)); intro gb144 hg w5 hbox hb; have n0_ := o_ (below_step (bl HB) hb); have n1_ := o_ (hbox); have n2_ := o_ ((by rw [hg]; exact (below_size (bl HB)) : w.heap.size ≤ gb144)); have n3_ := o_ ((by rw [hg]; exact (below_size (bl HB)) : w.heap.size ≤ gb144)); clear HB; have HB := n0_; have BK144 := n1_; have GW144 := n2_; have GE144 := n3_; clear n0_ n1_ n2_ n3_; clear hb hbox hg; have z6 := box7 BK144) | (go_at_call 55; (with_reducible refine (glyph_Valid.calls a0_0 a0_1 a0_2 a0_3 a0_4 a0_5 _ _ l0_6 true _ ?side1 ?side2 A2.out).mono ?_); (case side1 => exact Kd.C_below HR0_6.out (bl HB)); (case side2 => exact HC0_6.out); rintro e w7 ⟨rfl, hb⟩; have n0_ := o_ (blk_below (g := gb144) (o := .cells #[.int .i64 a0_0, .int .i64 a0_1, .int .i64 a0_2, .int .i64 a0_3, .string a0_4, .string a0_5, .slice A0_6 l0_6.length c0_6] 33 (0, 0)) (bu BK144) hb); have n1_ := o_ (below_step (bl HB) hb); clear BK144; clear HB; have BK144 := n0_; have HB := n1_; clear n0_ n1_; (try clear hb); have z8 := box7 BK144))
 go_ret
 exact ⟨by first | rfl | (simp [*] <;> rfl), bl HB⟩
end Go.Proofs.Yteadghhmoggjnaa.Q
end
section
namespace Go.Proofs.Yteadghhmoggjnaa.Q
open Go.RowKit YteadghhmoggjnaaW.PrintWords YteadghhmoggjnaaW.PrintLast YteadghhmoggjnaaW.PrintMore
attribute [local go_sem] max2_int max_two
def fill_take.f (l0 : List (S33)) (a1 : Int) (a2_0 : Int) (a2_1 : Int) (a2_2 : Int) (a2_3 : Int) (a2_4 : ByteArray) (a2_5 : ByteArray) (l2_6 : List Int) : Option ((List (S33)) × (List (S33)) × Bool) := if Go.Proofs.YteadghhmoggjnaaB.okL l0 = true then some (Go.Proofs.YteadghhmoggjnaaB.takeL l0 a1 ⟨a2_0, a2_1, a2_2, a2_3, a2_4, a2_5, l2_6⟩) else none
theorem fill_take.calls (P0_ : Nat → Prop) (A0 : Option Addr) (c0 : Nat) (l0 : List (S33)) (a1 : Int) (a2_0 : Int) (a2_1 : Int) (a2_2 : Int) (a2_3 : Int) (a2_4 : ByteArray) (a2_5 : ByteArray) (P2_6_ : Nat → Prop) (A2_6 : Option Addr) (c2_6 : Nat) (l2_6 : List Int) (r1 : List (S33)) (r2 : List (S33)) (r3 : Bool) (w : World) (hs0 : Kd.V k33 33 w w.heap.size (fun k_ => P0_ k_) (.slice A0 l0.length c0) l0) (hs2_6 : Kd.V (Kd.int .i64) 3 w w.heap.size (fun k_ => P2_6_ k_) (.slice A2_6 l2_6.length c2_6) l2_6) (h : fill_take.f l0 a1 a2_0 a2_1 a2_2 a2_3 a2_4 a2_5 l2_6 = some (r1, r2, r3)) :
  Calls Try.prog 39 #[.slice A0 l0.length c0, .int .i64 a1, .agg #[.int .i64 a2_0, .int .i64 a2_1, .int .i64 a2_2, .int .i64 a2_3, .string a2_4, .string a2_5, .slice A2_6 l2_6.length c2_6]] w fun e w' => ∃ v0_ v1_ : Value, e = .returned (.tuple #[v0_, v1_, .bool r3]) ∧ Kd.V k33 33 w' w.heap.size (fun k_ => ((P0_ k_ ∨ P2_6_ k_) ∨ w.heap.size ≤ k_)) v0_ r1 ∧ Kd.V k33 33 w' w.heap.size (fun k_ => ((P0_ k_ ∨ P2_6_ k_) ∨ w.heap.size ≤ k_)) v1_ r2 ∧ Below w.heap.size w w' := by
 obtain ⟨h1, h2⟩ := Go.Proofs.YteadghhmoggjnaaB.of_if h
 have hm := hs2_6
 have q := Go.Proofs.YteadghhmoggjnaaB.take_any A0 l0.length c0 l0 (fun k => P0_ k ∨ P2_6_ k) w ((Go.Proofs.YteadghhmoggjnaaB.rd_of_F (Kd.V_F hs0)).weaken (fun _ hk => .inl hk)) (Kd.V_at hs0).2.1 (Go.Proofs.YteadghhmoggjnaaB.okL_len h1) (Go.Proofs.YteadghhmoggjnaaB.okL_max h1) a1 ⟨a2_0, a2_1, a2_2, a2_3, a2_4, a2_5, l2_6⟩ A2_6 c2_6 ((Go.Proofs.YteadghhmoggjnaaB.rd_of_Fi (Kd.V_F hs2_6)).weaken (fun _ hk => .inr hk)) (Kd.V_at hs2_6).2.1
 have p := Go.Proofs.YteadghhmoggjnaaB.parts_take l0 a1 ⟨a2_0, a2_1, a2_2, a2_3, a2_4, a2_5, l2_6⟩
 rw [h2] at q p
 obtain ⟨p1, p2, p3, p4⟩ := p
 have hl := Go.Proofs.YteadghhmoggjnaaB.okL_len h1
 have h6 : l2_6.length ≤ 9223372036854775807 := Kd.F_max (Kd.V_F hs2_6)
 dsimp only at p1 p2 p3 p4
 refine q.mono ?_
 rintro e w' ⟨v1, v2, he, q1, q2, hb⟩
 exact ⟨v1, v2, he, Go.Proofs.YteadghhmoggjnaaB.V_of_slrd (q1.weaken (fun k hk => hk.imp And.left id)) (by omega) (fun x hx => by
  rcases p2 x hx with h | rfl
  ·exact Go.Proofs.YteadghhmoggjnaaB.okL_max h1 x h
  ·exact h6), Go.Proofs.YteadghhmoggjnaaB.V_of_slrd (q2.weaken (fun k hk => hk.imp And.left id)) (by omega) (fun x hx => Go.Proofs.YteadghhmoggjnaaB.okL_max h1 x (p4 x hx)), hb⟩
end Go.Proofs.Yteadghhmoggjnaa.Q
end
end
section
namespace Go.Proofs.Yteadghhmoggjnaa.Q
open Go.RowKit YteadghhmoggjnaaW.PrintWords YteadghhmoggjnaaW.PrintLast YteadghhmoggjnaaW.PrintMore
attribute [local go_sem] max2_int max_two
set_option maxHeartbeats 8000000
set_option maxRecDepth 100000
def r_Blank.f (a0_0 : Int) (a0_1 : Int) (a0_2 : Int) (a0_3 : Int) (a0_4 : ByteArray) (a0_5 : ByteArray) (l0_6 : List Int) : Option (Bool) := if a0_0 = 1 then (some (a0_4.toList != ([126] : List UInt8))) else (some false)
theorem r_Blank.calls (a0_0 : Int) (a0_1 : Int) (a0_2 : Int) (a0_3 : Int) (a0_4 : ByteArray) (a0_5 : ByteArray) (A0_6 : Option Addr) (c0_6 : Nat) (l0_6 : List Int) (r : Bool) (w : World) (hr0_6 : Kd.C (Kd.int .i64) w A0_6 l0_6.length l0_6) (hc0_6 : l0_6.length ≤ c0_6) (h : r_Blank.f a0_0 a0_1 a0_2 a0_3 a0_4 a0_5 l0_6 = some r) :
  Calls Try.prog 22 #[.agg #[.int .i64 a0_0, .int .i64 a0_1, .int .i64 a0_2, .int .i64 a0_3, .string a0_4, .string a0_5, .slice A0_6 l0_6.length c0_6]] w fun e w' => e = .returned (.bool r) ∧ Below w.heap.size w w' := by
 have hu33 := Try.underlying33
 have HR0_6 := o_ hr0_6
 have HC0_6 := o_ hc0_6
 clear hr0_6 hc0_6
 have HB := o_ (Below.refl w.heap.size w)
 have H : (if a0_0 = 1 then (some (a0_4.toList != ([126] : List UInt8))) else (some false)) = some r := h
 clear h
 by_cases c2 : a0_0 = 1
 rotate_left
 ·rw [if_neg c2] at H
  have c2b0 : (a0_0 == 1) = false := beq_eq_false_iff_ne.mpr c2
  have c2b1 : (a0_0 != 1) = true := bne_iff_ne.mpr c2
  obtain rfl := Option.some.inj H
  go_enter Try.func22, Try.ntmps22
  go_wp2_with (first | ((with_reducible refine gate_dst (N := 1) rfl ?_); refine box_event ?hg (N := 1) ?hd (cs := #[.int .i64 a0_0, .int .i64 a0_1, .int .i64 a0_2, .int .i64 a0_3, .string a0_4, .string a0_5, .slice A0_6 l0_6.length c0_6]) (t := 33) ?hr ?_; (case hd => rfl); (case hg => rfl); (case hr => first | (go_simp; done) | (go_simp; rfl)); intro gb349 hg w5 hbox hb; have n0_ := o_ (below_step (bl HB) hb); have n1_ := o_ (hbox); have n2_ := o_ ((by rw [hg]; exact (below_size (bl HB)) : w.heap.size ≤ gb349)); have n3_ := o_ ((by rw [hg]; exact (below_size (bl HB)) : w.heap.size ≤ gb349)); clear HB; have HB := n0_; have BK349 := n1_; have GW349 := n2_; have GE349 := n3_; clear n0_ n1_ n2_ n3_; clear hb hbox hg; have z6 := box7 BK349))
  go_ret
  exact ⟨by first | rfl | (simp [*] <;> rfl), bl HB⟩
 rw [if_pos c2] at H
 have c2b0 : (a0_0 == 1) = true := beq_iff_eq.mpr c2
 have c2b1 : (a0_0 != 1) = false := bne_eq_false_iff_eq.mpr c2
 clear c2
 obtain rfl := Option.some.inj H
 go_enter Try.func22, Try.ntmps22
 go_wp2_with (first | ((with_reducible refine gate_dst (N := 1) rfl ?_); refine box_event ?hg (N := 1) ?hd (cs := #[.int .i64 a0_0, .int .i64 a0_1, .int .i64 a0_2, .int .i64 a0_3, .string a0_4, .string a0_5, .slice A0_6 l0_6.length c0_6]) (t := 33) ?hr ?_; (case hd => rfl); (case hg => rfl); (case hr => first | (go_simp; done) | (go_simp; rfl)); intro gb349 hg w3 hbox hb; have n0_ := o_ (below_step (bl HB) hb); have n1_ := o_ (hbox); have n2_ := o_ ((by rw [hg]; exact (below_size (bl HB)) : w.heap.size ≤ gb349)); have n3_ := o_ ((by rw [hg]; exact (below_size (bl HB)) : w.heap.size ≤ gb349)); clear HB; have HB := n0_; have BK349 := n1_; have GW349 := n2_; have GE349 := n3_; clear n0_ n1_ n2_ n3_; clear hb hbox hg; have z4 := box7 BK349))
 go_ret
 exact ⟨by first | rfl | (simp [*] <;> rfl), bl HB⟩
def r_word.l0 : Nat → List (S33) → Int → Int → Option (Int)
 | 0, _, _, _ => none
 | k + 1, x0, x1, x5 => if (wrap64 (x1 + x5)) < (x0.length : Int) then (if 0 ≤ (wrap64 (x1 + x5)) then ((r_Blank.f ((rT x0 (wrap64 (x1 + x5))).f0) ((rT x0 (wrap64 (x1 + x5))).f1) ((rT x0 (wrap64 (x1 + x5))).f2) ((rT x0 (wrap64 (x1 + x5))).f3) ((rT x0 (wrap64 (x1 + x5))).f4) ((rT x0 (wrap64 (x1 + x5))).f5) ((rT x0 (wrap64 (x1 + x5))).f6)).bind fun t351 => (if t351 = true then (some x5) else (r_word.l0 k x0 x1 (wrap64 (x5 + 1))))) else (none)) else (some x5)
def r_word.f (k : Nat) (l0 : List (S33)) (a1 : Int) : Option (Int) := r_word.l0 k l0 a1 0
theorem r_word.calls (k : Nat) (A0 : Option Addr) (c0 : Nat) (l0 : List (S33)) (a1 : Int) (r : Int) (w : World) (hr0 : Kd.C k33 w A0 l0.length l0) (hc0 : l0.length ≤ c0) (h : r_word.f k l0 a1 = some r) :
  Calls Try.prog 41 #[.slice A0 l0.length c0, .int .i64 a1] w fun e w' => e = .returned (.int .i64 r) ∧ Below w.heap.size w w' := by
 have hu33 := Try.underlying33
 have HR0 := o_ hr0
 have HC0 := o_ hc0
 clear hr0 hc0
 have HB := o_ (Below.refl w.heap.size w)
 have H : (r_word.l0 k l0 a1 0) = some r := h
 clear h
 have H' := o_ H
 clear H
 go_enter Try.func41, Try.ntmps41
 go_wp2
 go_loopg [5] k (fun kq v5 w' => ∃ (x5_1 : Int), v5 = .int .i64 x5_1 ∧ As (r_word.l0 kq l0 a1 x5_1 = some r) ∧ As (kq ≤ k) ∧ As (Below w.heap.size w w'))
 case atStart => exact ⟨(0), (by first | rfl | simp [*]), H', ⟨Nat.le_refl _⟩, ⟨bl HB⟩⟩
 case round =>
  clear H'
  obtain ⟨x5_1, rfl, HA, HK1, HB⟩ := hrel
  cases gk with
  | zero => exact absurd HA.out (by simp [r_word.l0])
  | succ k1 =>
   have H := HA.out
   clear HA
   simp only [r_word.l0] at H
   by_cases c3 : (wrap64 (a1 + x5_1)) < (l0.length : Int)
   rotate_left
   ·rw [if_neg c3] at H
    have c3b0 := decide_eq_false c3
    clear c3
    obtain rfl := Option.some.inj H
    go_wp2
    go_ret
    exact ⟨by first | rfl | (simp [*] <;> rfl), bl HB⟩
   rw [if_pos c3] at H
   have c3b0 := decide_eq_true c3
   clear c3
   obtain ⟨ji4, hji4⟩ : ∃ j_ : Int, (wrap64 (a1 + x5_1)) = j_ := ⟨_, rfl⟩
   replace H : (if 0 ≤ (ji4) then ((r_Blank.f ((rT l0 (ji4)).f0) ((rT l0 (ji4)).f1) ((rT l0 (ji4)).f2) ((rT l0 (ji4)).f3) ((rT l0 (ji4)).f4) ((rT l0 (ji4)).f5) ((rT l0 (ji4)).f6)).bind fun t351 => (if t351 = true then (some x5_1) else (r_word.l0 k1 l0 a1 (wrap64 (x5_1 + 1))))) else (none)) = some r := by first | (rw [hji4] at H; exact H) | (simp only [hji4] at H ⊢; exact H)
   (try rw [hji4] at c3b0)
   have hji4w : (IntKind.i64.wrap (a1 + x5_1)) = ji4 := (i64_w _).trans hji4
   by_cases c5 : 0 ≤ (ji4)
   rotate_left
   ·rw [if_neg c5] at H
    exact absurd H (by simp)
   rw [if_pos c5] at H
   have c5b0 := decide_eq_true c5
   clear c5
   obtain ⟨t351, A60, H⟩ := qb H
   try dsimp only at H
   have A6 := o_ A60
   clear A60
   by_cases c7 : t351 = true
   ·subst c7
    have H1 : (some x5_1) = some r := by rw [if_pos rfl] at H; exact H
    clear H
    have H := H1
    clear H1
    obtain rfl := Option.some.inj H
    have p350 : 0 ≤ ((ji4) : Int) := oa
    have q350 : (ji4) < (l0.length : Int) := oa
    obtain ⟨ad350, A350_6, c350_6, e350, hx350_0, hx350_1, hx350_2, hx350_3, hx350_4, hx350_5, hx350_6, hl350_6, hi350_6⟩ := aT HR0.out (ji4) p350 q350
    cases e350
    obtain ⟨hx350_0, hx350_1, hx350_2, hx350_3, hx350_4, hx350_5, hx350_6⟩ := ct7 HB hx350_0 hx350_1 hx350_2 hx350_3 hx350_4 hx350_5 hx350_6
    have HR350_6 := o_ hi350_6
    have HC350_6 := o_ hl350_6
    clear hi350_6 hl350_6
    replace p350 := eq_true p350
    replace q350 := eq_true q350
    go_wp2_with (first | (go_at_call 22; (with_reducible refine (r_Blank.calls ((rT l0 (ji4)).f0) ((rT l0 (ji4)).f1) ((rT l0 (ji4)).f2) ((rT l0 (ji4)).f3) ((rT l0 (ji4)).f4) ((rT l0 (ji4)).f5) _ _ ((rT l0 (ji4)).f6) true _ ?side1 ?side2 A6.out).mono ?_); (case side1 => exact Kd.C_below HR350_6.out (bl HB)); (case side2 => exact HC350_6.out); rintro e w8 ⟨rfl, hb⟩; have n0_ := o_ (below_step (bl HB) hb); clear HB; have HB := n0_; clear n0_; (try clear hb)))
    go_ret
    exact ⟨by first | rfl | (simp [errW_none, errW_some] <;> rfl) | (simp only [← hji4]; first | rfl | (simp [errW_none, errW_some] <;> rfl)) | (simp [*, errW_none, errW_some] <;> rfl), bl HB⟩
   replace c7 := Bool.eq_false_iff.mpr c7
   subst c7
   have H1 : (r_word.l0 k1 l0 a1 (wrap64 (x5_1 + 1))) = some r := by rw [if_neg (show ¬ (false = true) by decide)] at H; exact H
   clear H
   have H := H1
   clear H1
   have H' := o_ H
   clear H
   have p350 : 0 ≤ ((ji4) : Int) := oa
   have q350 : (ji4) < (l0.length : Int) := oa
   obtain ⟨ad350, A350_6, c350_6, e350, hx350_0, hx350_1, hx350_2, hx350_3, hx350_4, hx350_5, hx350_6, hl350_6, hi350_6⟩ := aT HR0.out (ji4) p350 q350
   cases e350
   obtain ⟨hx350_0, hx350_1, hx350_2, hx350_3, hx350_4, hx350_5, hx350_6⟩ := ct7 HB hx350_0 hx350_1 hx350_2 hx350_3 hx350_4 hx350_5 hx350_6
   have HR350_6 := o_ hi350_6
   have HC350_6 := o_ hl350_6
   clear hi350_6 hl350_6
   replace p350 := eq_true p350
   replace q350 := eq_true q350
   go_wp2_with (first | (go_at_call 22; (with_reducible refine (r_Blank.calls ((rT l0 (ji4)).f0) ((rT l0 (ji4)).f1) ((rT l0 (ji4)).f2) ((rT l0 (ji4)).f3) ((rT l0 (ji4)).f4) ((rT l0 (ji4)).f5) _ _ ((rT l0 (ji4)).f6) false _ ?side1 ?side2 A6.out).mono ?_); (case side1 => exact Kd.C_below HR350_6.out (bl HB)); (case side2 => exact HC350_6.out); rintro e w9 ⟨rfl, hb⟩; have n0_ := o_ (below_step (bl HB) hb); clear HB; have HB := n0_; clear n0_; (try clear hb)))
   go_roundg k1
   case measure => have := HK1.out; omega
   case rel => exact ⟨(wrap64 (x5_1 + 1)), (by first | rfl | simp [*]), H', ⟨by have := HK1.out; omega⟩, ⟨bl HB⟩⟩
end Go.Proofs.Yteadghhmoggjnaa.Q
end
