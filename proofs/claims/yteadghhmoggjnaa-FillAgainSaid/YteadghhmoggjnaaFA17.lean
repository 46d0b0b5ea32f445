import Derived.KernelRfl
import Derived.Test.YteadghhmoggjnaaFA9
import Derived.Test.YteadghhmoggjnaaFA10
import Derived.Test.YteadghhmoggjnaaFA14
import Derived.Test.YteadghhmoggjnaaFA16
import Derived.Test.YteadghhmoggjnaaFA11
import Derived.Test.YteadghhmoggjnaaFA4
import Derived.Test.YteadghhmoggjnaaFA13
section
section
/- Plain laws of the printed functions of chapter 11: Width, Same, Row. -/
set_option linter.unusedVariables false
set_option linter.unusedSimpArgs false
namespace Go.Proofs.YteadghhmoggjnaaB
open Go.RowKit
open Go.Proofs.Yteadghhmoggjnaa.Q
open Go.Proofs.YteadghhmoggjnaaW.PrintWords Go.Proofs.YteadghhmoggjnaaW.PrintLast
set_option maxHeartbeats 800000
theorem rdT_at {l : List S33} {j : Nat} {x : S33} (h : l[j]? = some x) : rd_T33 l (j : Int) = x := by
  unfold rd_T33
  rw [Int.toNat_natCast, List.getD_eq_getElem?_getD, h]
  rfl
theorem w64_succ {j : Nat} (h : j ≤ 1000000000000) : wrap64 ((j : Int) + 1) = ((j + 1 : Nat) : Int) := by
  unfold wrap64
  omega
/-! ### Row -/
def kOf (n : Int) : Int := wrap64 (Int.tmod (IntKind.u64.wrap n) 100000)
theorem kOf_range (n : Int) : 0 ≤ kOf n ∧ kOf n < 100000 := by
  unfold kOf
  rw [IntKind.wrap_u64, Int.tmod_eq_emod_of_nonneg (by omega)]
  unfold wrap64
  omega
/-- One letter. -/
def letter (c : Int) : ByteArray := (⟨#[97, 98, 99, 100, 101, 102, 103, 104]⟩ : ByteArray).extract c.toNat (wrap64 (c + 1)).toNat
def boxRQ (r q : Int) : S33 :=
  if r = 0 ∨ r = 1 ∨ r = 2 then ⟨1, Int.tmod q 20, 0, 10, ⟨#[]⟩, ⟨#[]⟩, []⟩
  else if r = 3 ∨ r = 4 then ⟨5, 0, 0, 0, ⟨#[]⟩, ⟨#[]⟩, []⟩
  else if r = 5 then ⟨1, 5, 0, 10, ⟨#[126]⟩, ⟨#[]⟩, []⟩
  else if r = 6 then ⟨2, wrap64 (Int.tmod q 31 - 15), 0, 0, ⟨#[]⟩, ⟨#[]⟩, []⟩
  else if r = 7 then ⟨6, Int.tmod q 10, 0, 0, ⟨#[]⟩, ⟨#[]⟩, []⟩
  else ⟨0, wrap64 (5 + Int.tmod q 12), 0, 10, letter (Int.tmod q 8), ⟨#[]⟩, []⟩
def boxOf (n : Int) : S33 := boxRQ (Int.tmod (kOf n) 12) (wrap64 (Int.tdiv (kOf n) 12))
def rowL (l : List Int) : List S33 := (l.take 120).map boxOf
theorem rd_at {l : List Int} {j : Nat} {x : Int} (h : l[j]? = some x) : rd l (j : Int) = x := by
  unfold rd
  rw [Int.toNat_natCast, List.getD_eq_getElem?_getD, h]
  rfl
theorem row_step (l : List Int) {j : Nat} {n : Int} (h : l[j]? = some n) : (l.take (j + 1)).map boxOf = (l.take j).map boxOf ++ [boxOf n] := by
  obtain ⟨hj, rfl⟩ := List.getElem?_eq_some_iff.1 h
  rw [List.take_succ_eq_append_getElem hj, List.map_append]
  rfl
theorem row_one (l : List Int) (acc : List S33) (j kk r : Int) (R : List S33) (k : Nat) (hr0 : 0 ≤ r) (hr1 : r < 12) (hlen : acc.length < 1599289640401)
    (hc0 : 0 ≤ Int.tmod (wrap64 (Int.tdiv kk 12)) 8) (hc1 : Int.tmod (wrap64 (Int.tdiv kk 12)) 8 ≤ wrap64 (Int.tmod (wrap64 (Int.tdiv kk 12)) 8 + 1)) (hc2 : wrap64 (Int.tmod (wrap64 (Int.tdiv kk 12)) 8 + 1) ≤ 8)
    (ih1 : frisketlaw11_Row.l0 (k + 1) l (acc ++ [boxRQ r (wrap64 (Int.tdiv kk 12))]) (wrap64 (j + 1)) = some R) (ih2 : frisketlaw11_Row.l0 k l (acc ++ [boxRQ r (wrap64 (Int.tdiv kk 12))]) (wrap64 (j + 1)) = some R) :
    (if r = 0 then frisketlaw11_Row.j2 (k + 2) l acc j kk r (r == 0) else if r = 1 then frisketlaw11_Row.j2 (k + 2) l acc j kk r (r == 1) else frisketlaw11_Row.j2 (k + 2) l acc j kk r (r == 2)) = some R := by
  have : r = 0 ∨ r = 1 ∨ r = 2 ∨ r = 3 ∨ r = 4 ∨ r = 5 ∨ r = 6 ∨ r = 7 ∨ r = 8 ∨ r = 9 ∨ r = 10 ∨ r = 11 := by omega
  rcases this with rfl | rfl | rfl | rfl | rfl | rfl | rfl | rfl | rfl | rfl | rfl | rfl
  · rw [if_pos rfl]; unfold frisketlaw11_Row.j2; rw [if_pos (by decide)]
    show (if acc.length < 1599289640401 then _ else none) = _
    rw [if_pos hlen]; exact ih1
  · rw [if_neg (by decide), if_pos rfl]; unfold frisketlaw11_Row.j2; rw [if_pos (by decide)]
    show (if acc.length < 1599289640401 then _ else none) = _
    rw [if_pos hlen]; exact ih1
  · rw [if_neg (by decide), if_neg (by decide)]; unfold frisketlaw11_Row.j2; rw [if_pos (by decide)]
    show (if acc.length < 1599289640401 then _ else none) = _
    rw [if_pos hlen]; exact ih1
  · rw [if_neg (by decide), if_neg (by decide)]; unfold frisketlaw11_Row.j2; rw [if_neg (by decide), if_pos rfl]; unfold frisketlaw11_Row.j3; rw [if_pos (by decide), if_pos hlen]; exact ih2
  · rw [if_neg (by decide), if_neg (by decide)]; unfold frisketlaw11_Row.j2; rw [if_neg (by decide), if_neg (by decide)]; unfold frisketlaw11_Row.j3; rw [if_pos (by decide), if_pos hlen]; exact ih2
  · rw [if_neg (by decide), if_neg (by decide)]; unfold frisketlaw11_Row.j2; rw [if_neg (by decide), if_neg (by decide)]; unfold frisketlaw11_Row.j3; rw [if_neg (by decide), if_pos rfl, if_pos hlen]; exact ih2
  · rw [if_neg (by decide), if_neg (by decide)]; unfold frisketlaw11_Row.j2; rw [if_neg (by decide), if_neg (by decide)]; unfold frisketlaw11_Row.j3; rw [if_neg (by decide), if_neg (by decide), if_pos rfl, if_pos hlen]; exact ih2
  · rw [if_neg (by decide), if_neg (by decide)]; unfold frisketlaw11_Row.j2; rw [if_neg (by decide), if_neg (by decide)]; unfold frisketlaw11_Row.j3; rw [if_neg (by decide), if_neg (by decide), if_neg (by decide), if_pos rfl, if_pos hlen]; exact ih2
  all_goals (rw [if_neg (by decide), if_neg (by decide)]; unfold frisketlaw11_Row.j2; rw [if_neg (by decide), if_neg (by decide)]; unfold frisketlaw11_Row.j3; rw [if_neg (by decide), if_neg (by decide), if_neg (by decide), if_neg (by decide), if_pos hc0, if_pos hc1, if_pos hc2, if_pos hlen]; exact ih2)
theorem row_l (l : List Int) : ∀ (m j k : Nat), j ≤ l.length → j ≤ 120 → 120 = m + j → 4 * m + 2 ≤ k → frisketlaw11_Row.l0 k l ((l.take j).map boxOf) (j : Int) = some (rowL l)
  | m, j, 0, _, _, _, h => by omega
  | m, j, 1, _, _, _, h => by omega
  | m, j, k + 2, h1, h2, h3, h4 => by
    unfold frisketlaw11_Row.l0
    by_cases hj : j < l.length
    · rw [if_pos (by omega)]
      by_cases hj2 : j < 120
      · rw [show decide ((j : Int) < 120) = true from decide_eq_true (by omega)]
        unfold frisketlaw11_Row.j1
        rw [if_pos rfl, if_pos (by omega), if_pos (by omega)]
        obtain ⟨n, hn⟩ : ∃ n, l[j]? = some n := ⟨_, List.getElem?_eq_getElem hj⟩
        rw [rd_at hn, show wrap64 (Int.tmod (IntKind.u64.wrap n) 100000) = kOf n from rfl]
        obtain ⟨m, rfl⟩ : ∃ m', m = m' + 1 := ⟨m - 1, by omega⟩
        obtain ⟨k, rfl⟩ : ∃ k', k = k' + 4 := ⟨k - 4, by omega⟩
        have hk := kOf_range n
        have ih := row_l l m (j + 1) (k + 2) (by omega) (by omega) (by omega) (by omega)
        have ih3 := row_l l m (j + 1) (k + 3) (by omega) (by omega) (by omega) (by omega)
        rw [row_step l hn] at ih ih3
        have hlen : ((l.take j).map boxOf).length < 1599289640401 := by rw [List.length_map, List.length_take]; omega
        have h12 : 0 ≤ Int.tmod (kOf n) 12 ∧ Int.tmod (kOf n) 12 < 12 := by rw [Int.tmod_eq_emod_of_nonneg hk.1]; omega
        have hq0 : 0 ≤ wrap64 (Int.tdiv (kOf n) 12) ∧ wrap64 (Int.tdiv (kOf n) 12) < 100000 := by rw [Int.tdiv_eq_ediv_of_nonneg hk.1]; unfold wrap64; omega
        have hc : 0 ≤ Int.tmod (wrap64 (Int.tdiv (kOf n) 12)) 8 ∧ Int.tmod (wrap64 (Int.tdiv (kOf n) 12)) 8 < 8 := by rw [Int.tmod_eq_emod_of_nonneg hq0.1]; omega
        refine row_one l _ _ _ _ (rowL l) (k + 2) h12.1 h12.2 hlen hc.1 (by have h := hc; revert h; generalize Int.tmod (wrap64 (Int.tdiv (kOf n) 12)) 8 = c; intro h; unfold wrap64; omega) (by have h := hc; revert h; generalize Int.tmod (wrap64 (Int.tdiv (kOf n) 12)) 8 = c; intro h; unfold wrap64; omega) ?_ ?_
        · rw [w64_succ (by omega)]; exact ih3
        · rw [w64_succ (by omega)]; exact ih
      · rw [show decide ((j : Int) < 120) = false from decide_eq_false (by omega)]
        unfold frisketlaw11_Row.j1
        rw [if_neg (by decide)]
        unfold rowL
        rw [show j = 120 by omega]
    · rw [if_neg (by omega)]
      unfold frisketlaw11_Row.j1
      rw [if_neg (by decide)]
      unfold rowL
      rw [List.take_of_length_le (by omega), List.take_of_length_le (by omega)]
theorem row_f (l : List Int) {k : Nat} (hk : 482 ≤ k) : frisketlaw11_Row.f k l = some (rowL l) := row_l l 120 0 k (Nat.zero_le _) (by omega) rfl hk
theorem rowL_len (l : List Int) : (rowL l).length ≤ 120 := by
  unfold rowL
  rw [List.length_map, List.length_take]
  omega
theorem letter_all : (List.range 8).all (fun (c : Nat) => namedB (letter (c : Int))) = true := by kernel_rfl
theorem letter_ok (c : Int) (h0 : 0 ≤ c) (h1 : c < 8) : namedB (letter c) = true := by
  have h := List.all_eq_true.1 letter_all c.toNat (List.mem_range.2 (by omega))
  rw [Int.toNat_of_nonneg h0] at h
  exact h
/-- What every box of numbers is. -/
theorem boxOf_ok (n : Int) : validB (boxOf n) = true ∧ (boxOf n).f6 = [] ∧ (-15 ≤ (boxOf n).f1 ∧ (boxOf n).f1 ≤ 20) := by
  have hk := kOf_range n
  have hr : 0 ≤ Int.tmod (kOf n) 12 ∧ Int.tmod (kOf n) 12 < 12 := by rw [Int.tmod_eq_emod_of_nonneg hk.1]; omega
  have hq : 0 ≤ wrap64 (Int.tdiv (kOf n) 12) ∧ wrap64 (Int.tdiv (kOf n) 12) < 100000 := by rw [Int.tdiv_eq_ediv_of_nonneg hk.1]; unfold wrap64; omega
  have h20 : 0 ≤ Int.tmod (wrap64 (Int.tdiv (kOf n) 12)) 20 ∧ Int.tmod (wrap64 (Int.tdiv (kOf n) 12)) 20 < 20 := by rw [Int.tmod_eq_emod_of_nonneg hq.1]; omega
  have h31 : 0 ≤ Int.tmod (wrap64 (Int.tdiv (kOf n) 12)) 31 ∧ Int.tmod (wrap64 (Int.tdiv (kOf n) 12)) 31 < 31 := by rw [Int.tmod_eq_emod_of_nonneg hq.1]; omega
  have h10 : 0 ≤ Int.tmod (wrap64 (Int.tdiv (kOf n) 12)) 10 ∧ Int.tmod (wrap64 (Int.tdiv (kOf n) 12)) 10 < 10 := by rw [Int.tmod_eq_emod_of_nonneg hq.1]; omega
  have h12 : 0 ≤ Int.tmod (wrap64 (Int.tdiv (kOf n) 12)) 12 ∧ Int.tmod (wrap64 (Int.tdiv (kOf n) 12)) 12 < 12 := by rw [Int.tmod_eq_emod_of_nonneg hq.1]; omega
  have h8 : 0 ≤ Int.tmod (wrap64 (Int.tdiv (kOf n) 12)) 8 ∧ Int.tmod (wrap64 (Int.tdiv (kOf n) 12)) 8 < 8 := by rw [Int.tmod_eq_emod_of_nonneg hq.1]; omega
  have hcol : colourB ⟨#[]⟩ = true := by kernel_rfl
  unfold boxOf
  generalize Int.tmod (kOf n) 12 = r at *
  generalize wrap64 (Int.tdiv (kOf n) 12) = q at *
  have hv : ∀ x : S33, -15 ≤ x.f1 → x.f1 ≤ 20 → x.f2 = 0 → 0 ≤ x.f3 → x.f5 = ⟨#[]⟩ → validB x = (if x.f0 = 0 then namedB x.f4 && (x.f6.length == 0)
   else if x.f0 = 1 then ((x.f4.toList == []) || (x.f4.toList == [126])) && (x.f5.toList == []) && (x.f6.length == 0)
   else if x.f0 = 4 then (x.f2 == 0) && (x.f3 == 0) && (x.f4.size == 1) && strokeB x.f4 && decide (x.f6.length ≤ 40) && allI farV x.f6
   else if x.f0 = 5 then bareB x && (x.f4.toList == []) && (x.f1 == 0)
   else if x.f0 = 2 ∨ x.f0 = 3 ∨ x.f0 = 6 then bareB x && (x.f4.toList == [])
   else false) := fun x a1 a2 a3 a4 a5 => by
    unfold validB
    rw [decide_eq_false (by omega : ¬ x.f1 < -1000000), decide_eq_false (by omega : ¬ 1000000 < x.f1), decide_eq_false (by omega : ¬ x.f2 < 0), decide_eq_false (by omega : ¬ x.f3 < 0), a5, hcol]
    rfl
  have hmt : (⟨#[]⟩ : ByteArray).toList = [] := by kernel_rfl
  have htl : (⟨#[126]⟩ : ByteArray).toList = [126] := by kernel_rfl
  unfold boxRQ
  split
  · refine ⟨?_, rfl, by dsimp only; omega⟩
    rw [hv _ (by dsimp only; omega) (by dsimp only; omega) rfl (by dsimp only; omega) rfl]
    dsimp only
    rw [hmt]
    rfl
  · split
    · refine ⟨by kernel_rfl, rfl, by decide⟩
    · split
      · refine ⟨by kernel_rfl, rfl, by decide⟩
      · split
        · have e : -15 ≤ wrap64 (Int.tmod q 31 - 15) ∧ wrap64 (Int.tmod q 31 - 15) ≤ 20 := by unfold wrap64; omega
          refine ⟨?_, rfl, e⟩
          rw [hv _ e.1 e.2 rfl (by dsimp only; omega) rfl]
          dsimp only
          unfold bareB
          dsimp only
          rw [hmt]
          rfl
        · split
          · refine ⟨?_, rfl, by dsimp only; omega⟩
            rw [hv _ (by dsimp only; omega) (by dsimp only; omega) rfl (by dsimp only; omega) rfl]
            dsimp only
            unfold bareB
            dsimp only
            rw [hmt]
            rfl
          · have e : -15 ≤ wrap64 (5 + Int.tmod q 12) ∧ wrap64 (5 + Int.tmod q 12) ≤ 20 := by unfold wrap64; omega
            refine ⟨?_, rfl, e⟩
            rw [hv _ e.1 e.2 rfl (by dsimp only; omega) rfl]
            dsimp only
            rw [letter_ok _ h8.1 h8.2]
            rfl
end Go.Proofs.YteadghhmoggjnaaB
end
section
/- Plain laws: how broad a row of numbers is; Adjust at it. -/
set_option linter.unusedVariables false
namespace Go.Proofs.YteadghhmoggjnaaB
open Go.RowKit
open Go.Proofs.Yteadghhmoggjnaa.Q (S33)
open Go.Proofs.YteadghhmoggjnaaW.PrintWords Go.Proofs.YteadghhmoggjnaaW.PrintLast
theorem rowL_mem {l : List Int} {x : S33} (h : x ∈ rowL l) : ∃ n, x = boxOf n := by
  unfold rowL at h
  obtain ⟨n, -, rfl⟩ := List.mem_map.1 h
  exact ⟨n, rfl⟩
end Go.Proofs.YteadghhmoggjnaaB
end
end
section
section
/- What take's parts are made of. -/
set_option linter.unusedVariables false
namespace Go.Proofs.YteadghhmoggjnaaB
open Go.RowKit
open Go.Proofs.Yteadghhmoggjnaa.Q (S33)
theorem hyph_len (l : List S33) (h : S33) : (hyph l h).length ≤ l.length + 1 := by
  unfold hyph
  split
  · omega
  · rw [List.length_append]; exact Nat.le_refl _
theorem hyph_mem {l : List S33} {h x : S33} (hx : x ∈ hyph l h) : x ∈ l ∨ x = h := by
  unfold hyph at hx
  split at hx
  · exact .inl hx
  · exact (List.mem_append.1 hx).imp id List.mem_singleton.1
theorem restL_mem {l : List S33} {x : S33} (hx : x ∈ restL l) : x ∈ l := List.dropWhile_subset _ hx
/-- A pair's parts. -/
def PartsOf (l : List S33) (h : S33) (r : List S33 × List S33 × Bool) : Prop := r.1.length ≤ l.length + 1 ∧ (∀ x ∈ r.1, x ∈ l ∨ x = h) ∧ r.2.1.length ≤ l.length ∧ ∀ x ∈ r.2.1, x ∈ l
theorem parts_all (l : List S33) (h : S33) (b : Bool) : PartsOf l h (l, [], b) := ⟨by simp, fun x hx => .inl hx, by simp, fun x hx => by cases hx⟩
theorem parts_cut (l : List S33) (h : S33) (a k : Nat) : PartsOf l h (hyph (l.take a) h, restL (l.drop k), true) :=
  ⟨by have := hyph_len (l.take a) h; have h2 : (l.take a).length ≤ l.length := List.length_take_le' _ _; show (hyph (l.take a) h).length ≤ _; omega,
   fun x hx => (hyph_mem hx).imp List.mem_of_mem_take id, (by have := restL_le (l.drop k); have h2 : (l.drop k).length ≤ l.length := (by rw [List.length_drop]; omega); show (restL (l.drop k)).length ≤ _; omega), fun x hx => List.mem_of_mem_drop (restL_mem hx)⟩
theorem parts_at (l : List S33) (h : S33) (a k : Nat) : PartsOf l h (l.take a, restL (l.drop k), true) :=
  ⟨by have h2 : (l.take a).length ≤ l.length := List.length_take_le' _ _; show (l.take a).length ≤ _; omega,
   fun x hx => .inl (List.mem_of_mem_take hx), (parts_cut l h a k).2.2.1, (parts_cut l h a k).2.2.2⟩
theorem parts_ans (l : List S33) (len : Int) (h : S33) (i : Nat) : PartsOf l h (ansAt l len h i) := by
  unfold ansAt
  split
  · exact parts_cut l h _ _
  · split
    · exact parts_at l h _ _
    · split
      · exact parts_cut l h _ _
      · exact parts_at l h _ _
theorem parts_go (l : List S33) (len : Int) (h : S33) : ∀ f i, PartsOf l h (takeGo l len h f i)
  | 0, _ => parts_all l h false
  | f + 1, i => by
    unfold takeGo
    split
    · split
      · exact parts_all l h false
      · split
        · exact parts_go l len h f _
        · exact parts_ans l len h i
    · exact parts_all l h false
theorem parts_take (l : List S33) (len : Int) (h : S33) : PartsOf l h (takeL l len h) := by
  obtain ⟨h1, h2, h3, h4⟩ := parts_go (restL l) len h ((restL l).length + 1) 0
  have hl := restL_le l
  exact ⟨by unfold takeL; omega, fun x hx => (h2 x hx).imp restL_mem id, by unfold takeL; omega, fun x hx => restL_mem (h4 x hx)⟩
end Go.Proofs.YteadghhmoggjnaaB
end
section
namespace Go.Proofs.Yteadghhmoggjnaa.Q
open Go.RowKit Go.Proofs.YteadghhmoggjnaaW.PrintWords Go.Proofs.YteadghhmoggjnaaW.PrintLast

set_option linter.unusedVariables false
set_option linter.unusedSimpArgs false
-- GIVEN by hand
-- GIVEN IMPORT Derived.Test.YteadghhmoggjnaaF16
/-! ### fill_check: function 26 -/
def fill_check.f (l0 : List (S33)) (l1 : List Int) : Option (Int) := some (Go.Proofs.YteadghhmoggjnaaB.checkI l0 l1)
theorem fill_check.calls (A0 : Option Addr) (c0 : Nat) (l0 : List (S33)) (A1 : Option Addr) (c1 : Nat) (l1 : List Int) (r : Int) (w : World) (hr0 : Kd.C k33 w A0 l0.length l0) (hc0 : l0.length ≤ c0) (hr1 : Kd.C (Kd.int .i64) w A1 l1.length l1) (hc1 : l1.length ≤ c1) (h : fill_check.f l0 l1 = some r) :
    Calls Try.prog 26 #[.slice A0 l0.length c0, .slice A1 l1.length c1] w fun e w' => e = .returned (.int .i64 r) ∧ Below w.heap.size w w' := by
  obtain rfl := Option.some.inj h
  exact Go.Proofs.YteadghhmoggjnaaB.check_any A0 _ c0 l0 A1 _ c1 l1 (fun _ => True) w (Go.Proofs.YteadghhmoggjnaaB.rd_boxes hr0) hr0.2.1 (Go.Proofs.YteadghhmoggjnaaB.lens_of_C hr0) (Go.Proofs.YteadghhmoggjnaaB.rd_ints hr1) hr1.2.1
end Go.Proofs.Yteadghhmoggjnaa.Q
end
section
namespace Go.Proofs.Yteadghhmoggjnaa.Q
open Go.RowKit Go.Proofs.YteadghhmoggjnaaW.PrintWords Go.Proofs.YteadghhmoggjnaaW.PrintLast

set_option linter.unusedVariables false
set_option linter.unusedSimpArgs false
-- GIVEN by hand
-- GIVEN IMPORT Derived.Test.YteadghhmoggjnaaF16
/-! ### fill_own: function 32 -/
def fill_own.f (l0 : List (S33)) : Option ((List (S33))) := if Go.Proofs.YteadghhmoggjnaaB.okL l0 = true then some l0 else none
theorem fill_own.calls (A0 : Option Addr) (c0 : Nat) (l0 : List (S33)) (r : List (S33)) (w : World) (hr0 : Kd.C k33 w A0 l0.length l0) (hc0 : l0.length ≤ c0) (h : fill_own.f l0 = some r) :
    Calls Try.prog 32 #[.slice A0 l0.length c0] w fun e w' => ∃ v0_ : Value, e = .returned (v0_) ∧ Kd.S k33 33 w' w.heap.size (fun _ => True) v0_ r ∧ Below w.heap.size w w' := by
  obtain ⟨h1, rfl⟩ := Go.Proofs.YteadghhmoggjnaaB.of_if h
  exact Go.Proofs.YteadghhmoggjnaaB.fill_own_any A0 _ c0 l0 w hr0 (Go.Proofs.YteadghhmoggjnaaB.okL_len h1) (Go.Proofs.YteadghhmoggjnaaB.okL_small h1)
end Go.Proofs.Yteadghhmoggjnaa.Q
end
section
namespace Go.Proofs.Yteadghhmoggjnaa.Q
open Go.RowKit Go.Proofs.YteadghhmoggjnaaW.PrintWords Go.Proofs.YteadghhmoggjnaaW.PrintLast

set_option linter.unusedVariables false
set_option linter.unusedSimpArgs false
-- GIVEN by hand
-- GIVEN IMPORT Derived.Test.YteadghhmoggjnaaF16
/-! ### glyph_Valid: function 55 -/
def glyph_Valid.f (a0_0 : Int) (a0_1 : Int) (a0_2 : Int) (a0_3 : Int) (a0_4 : ByteArray) (a0_5 : ByteArray) (l0_6 : List Int) : Option (Bool) := some (Go.Proofs.YteadghhmoggjnaaB.validB ⟨a0_0, a0_1, a0_2, a0_3, a0_4, a0_5, l0_6⟩)
theorem glyph_Valid.calls (a0_0 : Int) (a0_1 : Int) (a0_2 : Int) (a0_3 : Int) (a0_4 : ByteArray) (a0_5 : ByteArray) (A0_6 : Option Addr) (c0_6 : Nat) (l0_6 : List Int) (r : Bool) (w : World) (hr0_6 : Kd.C (Kd.int .i64) w A0_6 l0_6.length l0_6) (hc0_6 : l0_6.length ≤ c0_6) (h : glyph_Valid.f a0_0 a0_1 a0_2 a0_3 a0_4 a0_5 l0_6 = some r) :
    Calls Try.prog 55 #[.agg #[.int .i64 a0_0, .int .i64 a0_1, .int .i64 a0_2, .int .i64 a0_3, .string a0_4, .string a0_5, .slice A0_6 l0_6.length c0_6]] w fun e w' => e = .returned (.bool r) ∧ Below w.heap.size w w' := by
  obtain rfl := Option.some.inj h
  exact Go.Proofs.YteadghhmoggjnaaB.Valid_any ⟨a0_0, a0_1, a0_2, a0_3, a0_4, a0_5, l0_6⟩ A0_6 c0_6 w (Go.Proofs.YteadghhmoggjnaaB.rd_ints hr0_6) hr0_6.2.1
end Go.Proofs.Yteadghhmoggjnaa.Q
end
section
namespace Go.Proofs.Yteadghhmoggjnaa.Q
open Go.RowKit Go.Proofs.YteadghhmoggjnaaW.PrintWords Go.Proofs.YteadghhmoggjnaaW.PrintLast

set_option linter.unusedVariables false
set_option linter.unusedSimpArgs false
/-! ### fill_hyphens: function 38 -/
def fill_hyphens.f (a0_0 : Int) (a0_1 : Int) (a0_2 : Int) (a0_3 : Int) (a0_4 : ByteArray) (a0_5 : ByteArray) (l0_6 : List Int) : Option (Bool) := (glyph_Valid.f a0_0 a0_1 a0_2 a0_3 a0_4 a0_5 l0_6).bind fun t145 => (if t145 = true then (if a0_0 = 0 then (some true) else (some (a0_0 == 5))) else (some false))
set_option maxHeartbeats 8000000 in
set_option maxRecDepth 100000 in
theorem fill_hyphens.calls (a0_0 : Int) (a0_1 : Int) (a0_2 : Int) (a0_3 : Int) (a0_4 : ByteArray) (a0_5 : ByteArray) (A0_6 : Option Addr) (c0_6 : Nat) (l0_6 : List Int) (r : Bool) (w : World) (hr0_6 : Kd.C (Kd.int .i64) w A0_6 l0_6.length l0_6) (hc0_6 : l0_6.length ≤ c0_6) (h : fill_hyphens.f a0_0 a0_1 a0_2 a0_3 a0_4 a0_5 l0_6 = some r) :
    Calls Try.prog 38 #[.agg #[.int .i64 a0_0, .int .i64 a0_1, .int .i64 a0_2, .int .i64 a0_3, .string a0_4, .string a0_5, .slice A0_6 l0_6.length c0_6]] w fun e w' => e = .returned (.bool r) ∧ Below w.heap.size w w' := by
  have hu33 := Try.underlying33
  have HR0_6 := Aside0.mk hr0_6
  have HC0_6 := Aside0.mk hc0_6
  clear hr0_6 hc0_6
  have HB := Aside0.mk (Below.refl w.heap.size w)
  have H : ((glyph_Valid.f a0_0 a0_1 a0_2 a0_3 a0_4 a0_5 l0_6).bind fun t145 => (if t145 = true then (if a0_0 = 0 then (some true) else (some (a0_0 == 5))) else (some false))) = some r := h
  clear h
  replace H := Option.bind_eq_some_iff.mp H
  obtain ⟨t145, A20, H⟩ := H
  replace H : (if t145 = true then (if a0_0 = 0 then (some true) else (some (a0_0 == 5))) else (some false)) = some r := H
  have A2 := Aside0.mk A20
  clear A20
  by_cases c3 : t145 = true
  · subst c3
    have H1 : (if a0_0 = 0 then (some true) else (some (a0_0 == 5))) = some r := by rw [if_pos rfl] at H; exact H
    clear H
    have H := H1
    clear H1
    by_cases c4 : a0_0 = 0
    · rw [if_pos c4] at H
      have c4b0 : (a0_0 == 0) = true := beq_iff_eq.mpr c4
      have c4b1 : (a0_0 != 0) = false := bne_eq_false_iff_eq.mpr c4
      clear c4
      obtain rfl := Option.some.inj H
      go_enter Try.func38, Try.ntmps38
      go_wp2_with (first | ((with_reducible refine gate_dst (N := 1) rfl ?_); refine box_event ?hg (N := 1) ?hd (cs := #[.int .i64 a0_0, .int .i64 a0_1, .int .i64 a0_2, .int .i64 a0_3, .string a0_4, .string a0_5, .slice A0_6 l0_6.length c0_6]) (t := 33) ?hr ?_; (case hd => rfl); (case hg => rfl); (case hr => first | (go_simp; done) | (go_simp; rfl)); intro gb144 hg w5 hbox hb; have n0_ := Aside0.mk (below_step (by repeat (first | (with_reducible first | exact HB.out | apply below_alloc | apply pw_below_drewN | apply below_drew1) | exact HB.out)) hb); have n1_ := Aside0.mk (hbox); have n2_ := Aside0.mk ((by rw [hg]; exact (below_size (by repeat (first | (with_reducible first | exact HB.out | apply below_alloc | apply pw_below_drewN | apply below_drew1) | exact HB.out))) : w.heap.size ≤ gb144)); have n3_ := Aside0.mk ((by rw [hg]; exact (below_size (by repeat (first | (with_reducible first | exact HB.out | apply below_alloc | apply pw_below_drewN | apply below_drew1) | exact HB.out))) : w.heap.size ≤ gb144)); clear HB; have HB := n0_; have BK144 := n1_; have GW144 := n2_; have GE144 := n3_; clear n0_ n1_ n2_ n3_; clear hb hbox hg; have hcz6_0 : w5.cell? ⟨gb144, 0, none⟩ = some (.int .i64 a0_0) := (blk_cell BK144.out 0).trans rfl; have hcz6_1 : w5.cell? ⟨gb144, 1, none⟩ = some (.int .i64 a0_1) := (blk_cell BK144.out 1).trans rfl; have hcz6_2 : w5.cell? ⟨gb144, 2, none⟩ = some (.int .i64 a0_2) := (blk_cell BK144.out 2).trans rfl; have hcz6_3 : w5.cell? ⟨gb144, 3, none⟩ = some (.int .i64 a0_3) := (blk_cell BK144.out 3).trans rfl; have hcz6_4 : w5.cell? ⟨gb144, 4, none⟩ = some (.string a0_4) := (blk_cell BK144.out 4).trans rfl; have hcz6_5 : w5.cell? ⟨gb144, 5, none⟩ = some (.string a0_5) := (blk_cell BK144.out 5).trans rfl; have hcz6_6 : w5.cell? ⟨gb144, 6, none⟩ = some (.slice A0_6 l0_6.length c0_6) := (blk_cell BK144.out 6).trans rfl; have hfz6_0 := blk_frozen BK144.out 0; have hfz6_1 := blk_frozen BK144.out 1; have hfz6_2 := blk_frozen BK144.out 2; have hfz6_3 := blk_frozen BK144.out 3; have hfz6_4 := blk_frozen BK144.out 4; have hfz6_5 := blk_frozen BK144.out 5; have hfz6_6 := blk_frozen BK144.out 6) | ((with_reducible refine gate_callee (f := 55) rfl ?_); refine goesL_ (some 4) rfl rfl Try.func55 (by kernel_rfl) rfl #[.agg #[.int .i64 a0_0, .int .i64 a0_1, .int .i64 a0_2, .int .i64 a0_3, .string a0_4, .string a0_5, .slice A0_6 l0_6.length c0_6]] rfl (by (try simp only [List.map_toArray, List.map_cons, List.map_nil]); first | done | rfl | (simp only [List.length_drop, List.length_take]; rfl)) ?_; (with_reducible refine (glyph_Valid.calls a0_0 a0_1 a0_2 a0_3 a0_4 a0_5 _ _ l0_6 true _ ?side1 ?side2 A2.out).mono ?_); (case side1 => repeat (first | exact (Kd.C_below HR0_6.out HB.out) | (with_reducible refine Kd.C_alloc ?_ _) | (with_reducible refine Kd.C_drewN ?_ _) | (with_reducible refine Kd.C_drew ?_))); (case side2 => exact HC0_6.out); rintro e w7 ⟨rfl, hb⟩; refine ⟨_, rfl, ?_⟩; have n0_ := Aside0.mk (blk_below (g := gb144) (o := .cells #[.int .i64 a0_0, .int .i64 a0_1, .int .i64 a0_2, .int .i64 a0_3, .string a0_4, .string a0_5, .slice A0_6 l0_6.length c0_6] 33 (0, 0)) (by (with_reducible repeat (first | refine blk_drewN ?_ _ | refine blk_drew ?_ | refine blk_alloc ?_ _)); exact BK144.out) hb); have n1_ := Aside0.mk (below_step (by repeat (first | (with_reducible first | exact HB.out | apply below_alloc | apply pw_below_drewN | apply below_drew1 | refine below_set ?_ GE144.out) | exact HB.out)) hb); clear BK144; clear HB; have BK144 := n0_; have HB := n1_; clear n0_ n1_; (try clear hb); (try clear hb2); (try clear hk); (try clear hi); have hcz8_0 : w7.cell? ⟨gb144, 0, none⟩ = some (.int .i64 a0_0) := (blk_cell BK144.out 0).trans rfl; have hcz8_1 : w7.cell? ⟨gb144, 1, none⟩ = some (.int .i64 a0_1) := (blk_cell BK144.out 1).trans rfl; have hcz8_2 : w7.cell? ⟨gb144, 2, none⟩ = some (.int .i64 a0_2) := (blk_cell BK144.out 2).trans rfl; have hcz8_3 : w7.cell? ⟨gb144, 3, none⟩ = some (.int .i64 a0_3) := (blk_cell BK144.out 3).trans rfl; have hcz8_4 : w7.cell? ⟨gb144, 4, none⟩ = some (.string a0_4) := (blk_cell BK144.out 4).trans rfl; have hcz8_5 : w7.cell? ⟨gb144, 5, none⟩ = some (.string a0_5) := (blk_cell BK144.out 5).trans rfl; have hcz8_6 : w7.cell? ⟨gb144, 6, none⟩ = some (.slice A0_6 l0_6.length c0_6) := (blk_cell BK144.out 6).trans rfl; have hfz8_0 := blk_frozen BK144.out 0; have hfz8_1 := blk_frozen BK144.out 1; have hfz8_2 := blk_frozen BK144.out 2; have hfz8_3 := blk_frozen BK144.out 3; have hfz8_4 := blk_frozen BK144.out 4; have hfz8_5 := blk_frozen BK144.out 5; have hfz8_6 := blk_frozen BK144.out 6))
      go_ret
      exact ⟨by first | rfl | (simp [errW_none, errW_some] <;> rfl) | (simp [*, errW_none, errW_some] <;> rfl), by repeat (first | (with_reducible first | exact HB.out | apply below_alloc | apply pw_below_drewN | apply below_drew1 | refine below_set ?_ GE144.out) | exact HB.out)⟩
    · rw [if_neg c4] at H
      have c4b0 : (a0_0 == 0) = false := beq_eq_false_iff_ne.mpr c4
      have c4b1 : (a0_0 != 0) = true := bne_iff_ne.mpr c4
      obtain rfl := Option.some.inj H
      go_enter Try.func38, Try.ntmps38
      go_wp2_with (first | ((with_reducible refine gate_dst (N := 1) rfl ?_); refine box_event ?hg (N := 1) ?hd (cs := #[.int .i64 a0_0, .int .i64 a0_1, .int .i64 a0_2, .int .i64 a0_3, .string a0_4, .string a0_5, .slice A0_6 l0_6.length c0_6]) (t := 33) ?hr ?_; (case hd => rfl); (case hg => rfl); (case hr => first | (go_simp; done) | (go_simp; rfl)); intro gb144 hg w9 hbox hb; have n0_ := Aside0.mk (below_step (by repeat (first | (with_reducible first | exact HB.out | apply below_alloc | apply pw_below_drewN | apply below_drew1) | exact HB.out)) hb); have n1_ := Aside0.mk (hbox); have n2_ := Aside0.mk ((by rw [hg]; exact (below_size (by repeat (first | (with_reducible first | exact HB.out | apply below_alloc | apply pw_below_drewN | apply below_drew1) | exact HB.out))) : w.heap.size ≤ gb144)); have n3_ := Aside0.mk ((by rw [hg]; exact (below_size (by repeat (first | (with_reducible first | exact HB.out | apply below_alloc | apply pw_below_drewN | apply below_drew1) | exact HB.out))) : w.heap.size ≤ gb144)); clear HB; have HB := n0_; have BK144 := n1_; have GW144 := n2_; have GE144 := n3_; clear n0_ n1_ n2_ n3_; clear hb hbox hg; have hcz10_0 : w9.cell? ⟨gb144, 0, none⟩ = some (.int .i64 a0_0) := (blk_cell BK144.out 0).trans rfl; have hcz10_1 : w9.cell? ⟨gb144, 1, none⟩ = some (.int .i64 a0_1) := (blk_cell BK144.out 1).trans rfl; have hcz10_2 : w9.cell? ⟨gb144, 2, none⟩ = some (.int .i64 a0_2) := (blk_cell BK144.out 2).trans rfl; have hcz10_3 : w9.cell? ⟨gb144, 3, none⟩ = some (.int .i64 a0_3) := (blk_cell BK144.out 3).trans rfl; have hcz10_4 : w9.cell? ⟨gb144, 4, none⟩ = some (.string a0_4) := (blk_cell BK144.out 4).trans rfl; have hcz10_5 : w9.cell? ⟨gb144, 5, none⟩ = some (.string a0_5) := (blk_cell BK144.out 5).trans rfl; have hcz10_6 : w9.cell? ⟨gb144, 6, none⟩ = some (.slice A0_6 l0_6.length c0_6) := (blk_cell BK144.out 6).trans rfl; have hfz10_0 := blk_frozen BK144.out 0; have hfz10_1 := blk_frozen BK144.out 1; have hfz10_2 := blk_frozen BK144.out 2; have hfz10_3 := blk_frozen BK144.out 3; have hfz10_4 := blk_frozen BK144.out 4; have hfz10_5 := blk_frozen BK144.out 5; have hfz10_6 := blk_frozen BK144.out 6) | ((with_reducible refine gate_callee (f := 55) rfl ?_); refine goesL_ (some 4) rfl rfl Try.func55 (by kernel_rfl) rfl #[.agg #[.int .i64 a0_0, .int .i64 a0_1, .int .i64 a0_2, .int .i64 a0_3, .string a0_4, .string a0_5, .slice A0_6 l0_6.length c0_6]] rfl (by (try simp only [List.map_toArray, List.map_cons, List.map_nil]); first | done | rfl | (simp only [List.length_drop, List.length_take]; rfl)) ?_; (with_reducible refine (glyph_Valid.calls a0_0 a0_1 a0_2 a0_3 a0_4 a0_5 _ _ l0_6 true _ ?side1 ?side2 A2.out).mono ?_); (case side1 => repeat (first | exact (Kd.C_below HR0_6.out HB.out) | (with_reducible refine Kd.C_alloc ?_ _) | (with_reducible refine Kd.C_drewN ?_ _) | (with_reducible refine Kd.C_drew ?_))); (case side2 => exact HC0_6.out); rintro e w11 ⟨rfl, hb⟩; refine ⟨_, rfl, ?_⟩; have n0_ := Aside0.mk (blk_below (g := gb144) (o := .cells #[.int .i64 a0_0, .int .i64 a0_1, .int .i64 a0_2, .int .i64 a0_3, .string a0_4, .string a0_5, .slice A0_6 l0_6.length c0_6] 33 (0, 0)) (by (with_reducible repeat (first | refine blk_drewN ?_ _ | refine blk_drew ?_ | refine blk_alloc ?_ _)); exact BK144.out) hb); have n1_ := Aside0.mk (below_step (by repeat (first | (with_reducible first | exact HB.out | apply below_alloc | apply pw_below_drewN | apply below_drew1 | refine below_set ?_ GE144.out) | exact HB.out)) hb); clear BK144; clear HB; have BK144 := n0_; have HB := n1_; clear n0_ n1_; (try clear hb); (try clear hb2); (try clear hk); (try clear hi); have hcz12_0 : w11.cell? ⟨gb144, 0, none⟩ = some (.int .i64 a0_0) := (blk_cell BK144.out 0).trans rfl; have hcz12_1 : w11.cell? ⟨gb144, 1, none⟩ = some (.int .i64 a0_1) := (blk_cell BK144.out 1).trans rfl; have hcz12_2 : w11.cell? ⟨gb144, 2, none⟩ = some (.int .i64 a0_2) := (blk_cell BK144.out 2).trans rfl; have hcz12_3 : w11.cell? ⟨gb144, 3, none⟩ = some (.int .i64 a0_3) := (blk_cell BK144.out 3).trans rfl; have hcz12_4 : w11.cell? ⟨gb144, 4, none⟩ = some (.string a0_4) := (blk_cell BK144.out 4).trans rfl; have hcz12_5 : w11.cell? ⟨gb144, 5, none⟩ = some (.string a0_5) := (blk_cell BK144.out 5).trans rfl; have hcz12_6 : w11.cell? ⟨gb144, 6, none⟩ = some (.slice A0_6 l0_6.length c0_6) := (blk_cell BK144.out 6).trans rfl; have hfz12_0 := blk_frozen BK144.out 0; have hfz12_1 := blk_frozen BK144.out 1; have hfz12_2 := blk_frozen BK144.out 2; have hfz12_3 := blk_frozen BK144.out 3; have hfz12_4 := blk_frozen BK144.out 4; have hfz12_5 := blk_frozen BK144.out 5; have hfz12_6 := blk_frozen BK144.out 6))
      go_ret
      exact ⟨by first | rfl | (simp [errW_none, errW_some] <;> rfl) | (simp [*, errW_none, errW_some] <;> rfl), by repeat (first | (with_reducible first | exact HB.out | apply below_alloc | apply pw_below_drewN | apply below_drew1 | refine below_set ?_ GE144.out) | exact HB.out)⟩
  · replace c3 := Bool.eq_false_iff.mpr c3
    subst c3
    have H1 : (some false) = some r := by rw [if_neg (show ¬ (false = true) by decide)] at H; exact H
    clear H
    have H := H1
    clear H1
    obtain rfl := Option.some.inj H
    go_enter Try.func38, Try.ntmps38
    go_wp2_with (first | ((with_reducible refine gate_dst (N := 1) rfl ?_); refine box_event ?hg (N := 1) ?hd (cs := #[.int .i64 a0_0, .int .i64 a0_1, .int .i64 a0_2, .int .i64 a0_3, .string a0_4, .string a0_5, .slice A0_6 l0_6.length c0_6]) (t := 33) ?hr ?_; (case hd => rfl); (case hg => rfl); (case hr => first | (go_simp; done) | (go_simp; rfl)); intro gb144 hg w13 hbox hb; have n0_ := Aside0.mk (below_step (by repeat (first | (with_reducible first | exact HB.out | apply below_alloc | apply pw_below_drewN | apply below_drew1) | exact HB.out)) hb); have n1_ := Aside0.mk (hbox); have n2_ := Aside0.mk ((by rw [hg]; exact (below_size (by repeat (first | (with_reducible first | exact HB.out | apply below_alloc | apply pw_below_drewN | apply below_drew1) | exact HB.out))) : w.heap.size ≤ gb144)); have n3_ := Aside0.mk ((by rw [hg]; exact (below_size (by repeat (first | (with_reducible first | exact HB.out | apply below_alloc | apply pw_below_drewN | apply below_drew1) | exact HB.out))) : w.heap.size ≤ gb144)); clear HB; have HB := n0_; have BK144 := n1_; have GW144 := n2_; have GE144 := n3_; clear n0_ n1_ n2_ n3_; clear hb hbox hg; have hcz14_0 : w13.cell? ⟨gb144, 0, none⟩ = some (.int .i64 a0_0) := (blk_cell BK144.out 0).trans rfl; have hcz14_1 : w13.cell? ⟨gb144, 1, none⟩ = some (.int .i64 a0_1) := (blk_cell BK144.out 1).trans rfl; have hcz14_2 : w13.cell? ⟨gb144, 2, none⟩ = some (.int .i64 a0_2) := (blk_cell BK144.out 2).trans rfl; have hcz14_3 : w13.cell? ⟨gb144, 3, none⟩ = some (.int .i64 a0_3) := (blk_cell BK144.out 3).trans rfl; have hcz14_4 : w13.cell? ⟨gb144, 4, none⟩ = some (.string a0_4) := (blk_cell BK144.out 4).trans rfl; have hcz14_5 : w13.cell? ⟨gb144, 5, none⟩ = some (.string a0_5) := (blk_cell BK144.out 5).trans rfl; have hcz14_6 : w13.cell? ⟨gb144, 6, none⟩ = some (.slice A0_6 l0_6.length c0_6) := (blk_cell BK144.out 6).trans rfl; have hfz14_0 := blk_frozen BK144.out 0; have hfz14_1 := blk_frozen BK144.out 1; have hfz14_2 := blk_frozen BK144.out 2; have hfz14_3 := blk_frozen BK144.out 3; have hfz14_4 := blk_frozen BK144.out 4; have hfz14_5 := blk_frozen BK144.out 5; have hfz14_6 := blk_frozen BK144.out 6) | ((with_reducible refine gate_callee (f := 55) rfl ?_); refine goesL_ (some 4) rfl rfl Try.func55 (by kernel_rfl) rfl #[.agg #[.int .i64 a0_0, .int .i64 a0_1, .int .i64 a0_2, .int .i64 a0_3, .string a0_4, .string a0_5, .slice A0_6 l0_6.length c0_6]] rfl (by (try simp only [List.map_toArray, List.map_cons, List.map_nil]); first | done | rfl | (simp only [List.length_drop, List.length_take]; rfl)) ?_; (with_reducible refine (glyph_Valid.calls a0_0 a0_1 a0_2 a0_3 a0_4 a0_5 _ _ l0_6 false _ ?side1 ?side2 A2.out).mono ?_); (case side1 => repeat (first | exact (Kd.C_below HR0_6.out HB.out) | (with_reducible refine Kd.C_alloc ?_ _) | (with_reducible refine Kd.C_drewN ?_ _) | (with_reducible refine Kd.C_drew ?_))); (case side2 => exact HC0_6.out); rintro e w15 ⟨rfl, hb⟩; refine ⟨_, rfl, ?_⟩; have n0_ := Aside0.mk (blk_below (g := gb144) (o := .cells #[.int .i64 a0_0, .int .i64 a0_1, .int .i64 a0_2, .int .i64 a0_3, .string a0_4, .string a0_5, .slice A0_6 l0_6.length c0_6] 33 (0, 0)) (by (with_reducible repeat (first | refine blk_drewN ?_ _ | refine blk_drew ?_ | refine blk_alloc ?_ _)); exact BK144.out) hb); have n1_ := Aside0.mk (below_step (by repeat (first | (with_reducible first | exact HB.out | apply below_alloc | apply pw_below_drewN | apply below_drew1 | refine below_set ?_ GE144.out) | exact HB.out)) hb); clear BK144; clear HB; have BK144 := n0_; have HB := n1_; clear n0_ n1_; (try clear hb); (try clear hb2); (try clear hk); (try clear hi)))
    go_ret
    exact ⟨by first | rfl | (simp [errW_none, errW_some] <;> rfl) | (simp [*, errW_none, errW_some] <;> rfl), by repeat (first | (with_reducible first | exact HB.out | apply below_alloc | apply pw_below_drewN | apply below_drew1 | refine below_set ?_ GE144.out) | exact HB.out)⟩
end Go.Proofs.Yteadghhmoggjnaa.Q
end
section
namespace Go.Proofs.Yteadghhmoggjnaa.Q
open Go.RowKit Go.Proofs.YteadghhmoggjnaaW.PrintWords Go.Proofs.YteadghhmoggjnaaW.PrintLast

set_option linter.unusedVariables false
set_option linter.unusedSimpArgs false
-- GIVEN by hand
-- GIVEN IMPORT Derived.Test.YteadghhmoggjnaaF17
/-! ### fill_take: function 39 -/
def fill_take.f (l0 : List (S33)) (a1 : Int) (a2_0 : Int) (a2_1 : Int) (a2_2 : Int) (a2_3 : Int) (a2_4 : ByteArray) (a2_5 : ByteArray) (l2_6 : List Int) : Option ((List (S33)) × (List (S33)) × Bool) := if Go.Proofs.YteadghhmoggjnaaB.okL l0 = true then some (Go.Proofs.YteadghhmoggjnaaB.takeL l0 a1 ⟨a2_0, a2_1, a2_2, a2_3, a2_4, a2_5, l2_6⟩) else none
theorem fill_take.calls (P0_ : Nat → Prop) (A0 : Option Addr) (c0 : Nat) (l0 : List (S33)) (a1 : Int) (a2_0 : Int) (a2_1 : Int) (a2_2 : Int) (a2_3 : Int) (a2_4 : ByteArray) (a2_5 : ByteArray) (P2_6_ : Nat → Prop) (A2_6 : Option Addr) (c2_6 : Nat) (l2_6 : List Int) (r1 : List (S33)) (r2 : List (S33)) (r3 : Bool) (w : World) (hs0 : Kd.V k33 33 w w.heap.size (fun k_ => P0_ k_) (.slice A0 l0.length c0) l0) (hs2_6 : Kd.V (Kd.int .i64) 3 w w.heap.size (fun k_ => P2_6_ k_) (.slice A2_6 l2_6.length c2_6) l2_6) (h : fill_take.f l0 a1 a2_0 a2_1 a2_2 a2_3 a2_4 a2_5 l2_6 = some (r1, r2, r3)) :
    Calls Try.prog 39 #[.slice A0 l0.length c0, .int .i64 a1, .agg #[.int .i64 a2_0, .int .i64 a2_1, .int .i64 a2_2, .int .i64 a2_3, .string a2_4, .string a2_5, .slice A2_6 l2_6.length c2_6]] w fun e w' => ∃ v0_ v1_ : Value, e = .returned (.tuple #[v0_, v1_, .bool r3]) ∧ Kd.V k33 33 w' w.heap.size (fun k_ => ((P0_ k_ ∨ P2_6_ k_) ∨ w.heap.size ≤ k_)) v0_ r1 ∧ Kd.V k33 33 w' w.heap.size (fun k_ => ((P0_ k_ ∨ P2_6_ k_) ∨ w.heap.size ≤ k_)) v1_ r2 ∧ Below w.heap.size w w' := by
  obtain ⟨h1, h2⟩ := Go.Proofs.YteadghhmoggjnaaB.of_if h
  have hm := hs2_6
  have q := Go.Proofs.YteadghhmoggjnaaB.take_any A0 l0.length c0 l0 (fun k => P0_ k ∨ P2_6_ k) w ((Go.Proofs.YteadghhmoggjnaaB.rd_of_F (Kd.V_F hs0)).weaken (fun _ hk => .inl hk)) (Kd.V_at hs0).2.1 (Go.Proofs.YteadghhmoggjnaaB.okL_len h1) (Go.Proofs.YteadghhmoggjnaaB.okL_max h1) a1 ⟨a2_0, a2_1, a2_2, a2_3, a2_4, a2_5, l2_6⟩ A2_6 c2_6 ((Go.Proofs.YteadghhmoggjnaaB.rd_of_Fi (Kd.V_F hs2_6)).weaken (fun _ hk => .inr hk)) (Kd.V_at hs2_6).2.1
  have p := Go.Proofs.YteadghhmoggjnaaB.parts_take l0 a1 ⟨a2_0, a2_1, a2_2, a2_3, a2_4, a2_5, l2_6⟩
  rw [h2] at q p
  obtain ⟨p1, p2, p3, p4⟩ := p
  have hl := Go.Proofs.YteadghhmoggjnaaB.okL_len h1
  have h6 : l2_6.length ≤ 9223372036854775807 := Kd.F_max (Kd.V_F hs2_6)
  dsimp only at p1 p2 p3 p4
  refine q.mono ?_
  rintro e w' ⟨v1, v2, he, q1, q2, hb⟩
  exact ⟨v1, v2, he, Go.Proofs.YteadghhmoggjnaaB.V_of_slrd (q1.weaken (fun k hk => hk.imp And.left id)) (by omega) (fun x hx => by
    rcases p2 x hx with h | rfl
    · exact Go.Proofs.YteadghhmoggjnaaB.okL_max h1 x h
    · exact h6), Go.Proofs.YteadghhmoggjnaaB.V_of_slrd (q2.weaken (fun k hk => hk.imp And.left id)) (by omega) (fun x hx => Go.Proofs.YteadghhmoggjnaaB.okL_max h1 x (p4 x hx)), hb⟩
end Go.Proofs.Yteadghhmoggjnaa.Q
end
end
section
/- Plain laws of the document's functions of chapter 11: Blank, word, front, own, places, cut, Valid, check. -/
set_option linter.unusedVariables false
set_option linter.unusedSimpArgs false
namespace Go.Proofs.YteadghhmoggjnaaB
open Go.RowKit
open Go.Proofs.Yteadghhmoggjnaa.Q
open Go.Proofs.YteadghhmoggjnaaW.PrintWords Go.Proofs.YteadghhmoggjnaaW.PrintLast
set_option maxHeartbeats 800000
theorem ev_pos {α : Type} {c : Prop} [Decidable c] {a b : Nat → Option α} {r : α} (h : c) (k : Ev a r) : Ev (fun n => if c then a n else b n) r := Ev.congr (fun _ => if_pos h) k
theorem ev_neg {α : Type} {c : Prop} [Decidable c] {a b : Nat → Option α} {r : α} (h : ¬ c) (k : Ev b r) : Ev (fun n => if c then a n else b n) r := Ev.congr (fun _ => if_neg h) k
theorem ev_now {α : Type} {a r : α} (h : a = r) : Ev (fun _ => some a) r := h ▸ Ev.now a
theorem w64_id {n : Int} (h0 : -9223372036854775808 ≤ n) (h1 : n ≤ 9223372036854775807) : wrap64 n = n := by unfold wrap64; omega
theorem w64_suc {j : Nat} (h : j ≤ 9000000000000000000) : wrap64 ((j : Int) + 1) = ((j + 1 : Nat) : Int) := by
 rw [w64_id (by omega) (by omega)]
 omega
theorem samebox2_l (x : S33) (hx : x.f6.length ≤ 9000000000000000000) : ∀ (d j : Nat), j + d = x.f6.length → Ev (fun k => frisketref08_SameBox.l0 k (j : Int) x.f0 x.f1 x.f2 x.f3 x.f4 x.f5 x.f6 x.f0 x.f1 x.f2 x.f3 x.f4 x.f5 x.f6) true
 | 0, j, h => by
  refine Ev.step (fun k => by rw [frisketref08_SameBox.l0]) ?_
  exact ev_neg (by omega) (ev_now rfl)
 | d + 1, j, h => by
  refine Ev.step (fun k => by rw [frisketref08_SameBox.l0]) (ev_pos (by omega) (ev_pos (by omega) (ev_pos (by omega) (ev_pos rfl ?_))))
  rw [w64_suc (by omega)]
  exact samebox2_l x hx d (j + 1) (by omega)
theorem samebox2 (x : S33) (hx : x.f6.length ≤ 9000000000000000000) : Ev (fun k => frisketref08_SameBox.f k x.f0 x.f1 x.f2 x.f3 x.f4 x.f5 x.f6 x.f0 x.f1 x.f2 x.f3 x.f4 x.f5 x.f6) true := by
 have e : ((x.f6.length : Int) != (x.f6.length : Int)) = false := by simp
 refine ev_pos rfl (ev_pos rfl (ev_pos rfl (ev_pos rfl (ev_pos rfl (ev_pos rfl ?_)))))
 rw [e]
 refine Ev.step (fun k => by rw [frisketref08_SameBox.j0]) (ev_neg (by decide) ?_)
 exact samebox2_l x hx x.f6.length 0 (by omega)
theorem same2_l (l : List S33) (hl : l.length ≤ 9000000000000000000) (h6 : ∀ x ∈ l, x.f6.length ≤ 9000000000000000000) : ∀ (d j : Nat), j + d = l.length → Ev (fun k => frisketref08_Same.l0 k l l (j : Int)) true
 | 0, j, h => by
  refine Ev.step (fun k => by rw [frisketref08_Same.l0]) ?_
  exact ev_neg (by omega) (ev_now rfl)
 | d + 1, j, h => by
  obtain ⟨x, hx⟩ : ∃ x, l[j]? = some x := ⟨_, List.getElem?_eq_getElem (by omega)⟩
  refine Ev.step (fun k => by rw [frisketref08_Same.l0]) (ev_pos (by omega) (ev_pos (by omega) (ev_pos (by omega) ?_)))
  rw [rdT_at hx, w64_suc (by omega)]
  exact Ev.bind (samebox2 x (h6 x (List.mem_of_getElem? hx))) (ev_pos rfl (same2_l l hl h6 d (j + 1) (by omega)))
theorem same_ev (l : List S33) (hl : l.length ≤ 9000000000000000000) (h6 : ∀ x ∈ l, x.f6.length ≤ 9000000000000000000) : Ev (fun k => frisketref08_Same.f k l l) true := by
 refine ev_pos rfl ?_
 exact same2_l l hl h6 l.length 0 (by omega)
/-! ### word -/
/-! ### front -/
theorem restL_cons {x : S33} {l : List S33} : restL (x :: l) = if blankB x = true then restL l else x :: l := by unfold restL; rw [List.dropWhile_cons]
/-! ### own -/
/-! ### places -/
/-! ### cut -/
end Go.Proofs.YteadghhmoggjnaaB
end
section
/- Plain laws of the document's functions of chapter 11: Valid, check, hyphens. -/
set_option linter.unusedVariables false
set_option linter.unusedSimpArgs false
namespace Go.Proofs.YteadghhmoggjnaaB
open Go.RowKit
open Go.Proofs.Yteadghhmoggjnaa.Q
open Go.Proofs.YteadghhmoggjnaaW.PrintWords Go.Proofs.YteadghhmoggjnaaW.PrintLast
set_option maxHeartbeats 1600000
/-! ### Valid -/
/-! ### check -/
def hyphB (h : S33) : Bool := validB h && ((h.f0 == 0) || (h.f0 == 5))
theorem fill_hyph (h : S33) : fill_hyphens.f h.f0 h.f1 h.f2 h.f3 h.f4 h.f5 h.f6 = some (hyphB h) := by
 unfold fill_hyphens.f glyph_Valid.f hyphB
 rw [Option.bind_some]
 cases validB h
 ·exact if_neg (by decide)
 ·rw [if_pos rfl]
  by_cases h0 : h.f0 = 0
  ·rw [h0]; rfl
  ·rw [if_neg h0, beq_eq_false_iff_ne.2 h0]; rfl
end Go.Proofs.YteadghhmoggjnaaB
end
section
/- Plain law of the document's take (chapter 11): it is takeL. -/
set_option linter.unusedVariables false
set_option linter.unusedSimpArgs false
namespace Go.Proofs.YteadghhmoggjnaaB
open Go.RowKit
open Go.Proofs.Yteadghhmoggjnaa.Q
open Go.Proofs.YteadghhmoggjnaaW.PrintWords Go.Proofs.YteadghhmoggjnaaW.PrintLast
set_option maxHeartbeats 1600000
theorem begA_len (R : List S33) {i : Nat} (hi : i ≤ R.length) : (restL (R.drop i)).length + begA R i = R.length := by
 have h1 := begA_drop (row := R) i
 have h2 := begA_le (row := R) hi
 have h3 := congrArg List.length h1
 rw [List.length_drop] at h3
 omega
theorem placesL_mem {l : List S33} {p : Int} (h : p ∈ placesL l) : ∃ q : Nat, p = (q : Int) ∧ brk l q = true := by
 unfold placesL placesTo at h
 obtain ⟨q, hq, rfl⟩ := List.mem_map.1 h
 exact ⟨q, rfl, (List.mem_filter.1 hq).2⟩
theorem brk_lt {l : List S33} {q : Nat} (h : brk l q = true) : q + 1 < l.length := by
 unfold brk at h
 cases hx : l[q]? with
 | none => rw [hx] at h; cases h
 | some x =>
  rw [hx] at h
  simp only [Bool.and_eq_true] at h
  have h2 := h.2.2
  apply Nat.lt_of_not_le
  intro hle
  rw [List.drop_eq_nil_of_le hle] at h2
  exact absurd h2 (by unfold noneB; decide)
end Go.Proofs.YteadghhmoggjnaaB
end
