import Derived.KernelRfl
import Derived.Test.YteadghhmoggjnaaFK12
import Derived.Test.YteadghhmoggjnaaFK2
import Derived.Test.YteadghhmoggjnaaFK3
import Derived.Test.YteadghhmoggjnaaFK8
import Derived.Test.YteadghhmoggjnaaFK9
import Derived.Test.YteadghhmoggjnaaFK10
section
section
/- From this seat's words to the printed ones: what the given functions say. -/
set_option linter.unusedVariables false
set_option linter.unusedSimpArgs false
namespace Go.Proofs.YteadghhmoggjnaaB
open Go.RowKit
open Go.Proofs.Yteadghhmoggjnaa.Q (S33 k33 z33 k33_open k33_mk k33_mkM k33_openF)
open Go.Proofs.YteadghhmoggjnaaW.PrintWords (Kd ReadsRow)
set_option maxHeartbeats 800000
theorem cell_putObj_none {W : World} {a : Addr} (hlt : a.block < W.heap.size) : (W.putObj a.block (.deferred none)).cell? a = none := by
 have h : (W.putObj a.block (.deferred none)).heap[a.block]? = some (.deferred none) := World.putObj_heap_same hlt
 unfold World.cell?
 rw [h]
theorem C_boxes {w : World} {ok : Nat → Prop} {A : Option Addr} {n : Nat} {l : List S33} (hn : n ≤ 9223372036854775807) (hlen : ∀ x ∈ l, x.f6.length ≤ 9223372036854775807) (h : boxK.Rd w ok A n l) : k33.C w A n l := by
 refine ⟨h.1, hn, fun hp => ?_⟩
 obtain ⟨b, off, rfl, -, -, hc⟩ := h.2 hp
 refine ⟨_, rfl, fun j x hx => ?_⟩
 obtain ⟨cs, ⟨A6, c6, rfl, h6, hr6⟩, hcs⟩ := hc j x hx
 refine ⟨_, rfl, k33_mk w x h6 (C_ints (hlen x (List.mem_of_getElem? hx)) hr6), fun i u hu => ?_⟩
 rw [Addr.add_lit]
 have := hcs i u hu
 rw [← this, Nat.add_assoc]
 rfl
theorem rd_of_F {W : World} {ok : Nat → Prop} {A : Option Addr} {n : Nat} {l : List S33} (h : Kd.F k33 W ok A n l) : boxK.Rd W ok A n l := by
 have h0 := rd_boxes (Kd.F_now h)
 refine ⟨h0.1, fun hp => ?_⟩
 obtain ⟨b, off, rfl, -, hlt, hc⟩ := h0.2 hp
 have hne : ∀ k, ¬ ok k → ∀ j, ok j → j < W.heap.size → (W.putObj k (.deferred none)).heap[j]? = W.heap[j]? := fun k hk j hj _ => World.putObj_heap_other (by rintro rfl; exact hk hj)
 have hb : ok b := by
  apply Classical.byContradiction
  intro hk
  have h1 := rd_boxes (h _ (hne b hk))
  obtain ⟨b', off', e, -, -, hc'⟩ := h1.2 hp
  injection e with e
  injection e with e1 e2
  subst e1
  obtain ⟨x0, hx0⟩ : ∃ x, l[0]? = some x := ⟨_, List.getElem?_eq_getElem (by rw [h0.1]; exact hp)⟩
  obtain ⟨cs, ⟨A6, c6, rfl, -, -⟩, hcs⟩ := hc' 0 x0 hx0
  have h2 := hcs 0 _ rfl
  rw [cell_putObj_none (a := ⟨b, _, none⟩) hlt] at h2
  cases h2
 refine ⟨b, off, rfl, hb, hlt, fun i x hx => ?_⟩
 obtain ⟨cs, ⟨A6, c6, rfl, h6, hr6⟩, hcs⟩ := hc i x hx
 refine ⟨_, ⟨A6, c6, rfl, h6, hr6.1, fun hp6 => ?_⟩, hcs⟩
 obtain ⟨b6, o6, rfl, -, hlt6, hc6⟩ := hr6.2 hp6
 have hb6 : ok b6 := by
  apply Classical.byContradiction
  intro hk
  have h1 := rd_boxes (h _ (hne b6 hk))
  obtain ⟨b', off', e, -, -, hc'⟩ := h1.2 hp
  injection e with e
  injection e with e1 e2
  subst e1
  subst e2
  obtain ⟨cs', ⟨A6', c6', rfl, -, hr6'⟩, hcs'⟩ := hc' i x hx
  have hbb : b ≠ b6 := by rintro rfl; exact hk hb
  have h2 := hcs' 6 _ rfl
  have h3 := hcs 6 _ rfl
  have h4 : (W.putObj b6 (.deferred none)).cell? ⟨b, off + i * boxK.sz + 6, none⟩ = W.cell? ⟨b, off + i * boxK.sz + 6, none⟩ := by
   unfold World.cell?
   rw [World.putObj_heap_other (show b ≠ b6 from hbb)]
  rw [h4, h3] at h2
  injection h2 with h2
  injection h2 with h2 _ _
  subst h2
  obtain ⟨b'', o'', e, -, -, hc''⟩ := hr6'.2 hp6
  injection e with e
  injection e with e1 e2
  subst e1
  obtain ⟨y0, hy0⟩ : ∃ y, x.f6[0]? = some y := ⟨_, List.getElem?_eq_getElem hp6⟩
  obtain ⟨cs', hk', hcs'⟩ := hc'' 0 y0 hy0
  have e1 : cs' = [Value.int .i64 y0] := hk'
  subst e1
  have h5 := hcs' 0 _ rfl
  rw [cell_putObj_none (a := ⟨b6, _, none⟩) hlt6] at h5
  cases h5
 exact ⟨b6, o6, rfl, hb6, hlt6, hc6⟩
theorem rd_of_Fi {W : World} {ok : Nat → Prop} {A : Option Addr} {n : Nat} {l : List Int} (h : Kd.F (Kd.int .i64) W ok A n l) : Kind.int.Rd W ok A n l := by
 have h0 := rd_ints (Kd.F_now h)
 refine ⟨h0.1, fun hp => ?_⟩
 obtain ⟨b, off, rfl, -, hlt, hc⟩ := h0.2 hp
 have hb : ok b := by
  apply Classical.byContradiction
  intro hk
  have h1 := rd_ints (h (W.putObj b (.deferred none)) (fun j hj _ => World.putObj_heap_other (by rintro rfl; exact hk hj)))
  obtain ⟨b', off', e, -, -, hc'⟩ := h1.2 hp
  injection e with e
  injection e with e1 e2
  subst e1
  obtain ⟨x0, hx0⟩ : ∃ x, l[0]? = some x := ⟨_, List.getElem?_eq_getElem (by rw [h0.1]; exact hp)⟩
  obtain ⟨cs, hk', hcs⟩ := hc' 0 x0 hx0
  have e1 : cs = [Value.int .i64 x0] := hk'
  subst e1
  have h2 := hcs 0 _ rfl
  rw [cell_putObj_none (a := ⟨b, _, none⟩) hlt] at h2
  cases h2
 exact ⟨b, off, rfl, hb, hlt, hc⟩
theorem V_of_slrd {w : World} {ok : Nat → Prop} {v : Value} {l : List S33} {e base : Nat} (h : SlRd w ok v l) (hn : l.length ≤ 9223372036854775807) (hlen : ∀ x ∈ l, x.f6.length ≤ 9223372036854775807) : Kd.V k33 e w base ok v l := by
 obtain ⟨A, c, rfl, hc, hr⟩ := h
 exact ⟨A, c, rfl, hc, fun W' hW => C_boxes hn hlen (hr.step hW)⟩
/-- Sizes that memory bears. -/
def okL (l : List S33) : Bool := decide (l.length ≤ 1000000000000) && l.all (fun x => decide (x.f6.length ≤ 17592186044416))
theorem okL_len {l : List S33} (h : okL l = true) : l.length ≤ 1000000000000 := by
 unfold okL at h
 rw [Bool.and_eq_true] at h
 exact of_decide_eq_true h.1
theorem okL_small {l : List S33} (h : okL l = true) : ∀ x ∈ l, x.f6.length ≤ 17592186044416 := fun x hx => by
 unfold okL at h
 rw [Bool.and_eq_true] at h
 exact of_decide_eq_true (List.all_eq_true.1 h.2 x hx)
theorem okL_max {l : List S33} (h : okL l = true) : ∀ x ∈ l, x.f6.length ≤ 9223372036854775807 := fun x hx => Nat.le_trans (okL_small h x hx) (by decide)
theorem of_if {α : Type} {b : Bool} {x y : α} (h : (if b = true then some x else none) = some y) : b = true ∧ x = y := by
 cases b with
 | true => exact ⟨rfl, by simpa using h⟩
 | false => simp at h
end Go.Proofs.YteadghhmoggjnaaB
end
section
namespace Go.Proofs.Yteadghhmoggjnaa.Q
open Go.RowKit Go.Proofs.YteadghhmoggjnaaW.PrintWords Go.Proofs.YteadghhmoggjnaaW.PrintLast

set_option linter.unusedVariables false
set_option linter.unusedSimpArgs false
-- GIVEN by hand
-- GIVEN IMPORT Derived.Test.YteadghhmoggjnaaF16
/-! ### fill_Adjust: function 11 -/
def fill_Adjust.f (l0 : List (S33)) (a1 : Int) (a2 : Int) (a3 : Bool) : Option ((List (S33)) × Int × Int) := some (Go.Proofs.YteadghhmoggjnaaB.adjL l0 a1 a2 a3)
theorem fill_Adjust.calls (A0 : Option Addr) (c0 : Nat) (l0 : List (S33)) (a1 : Int) (a2 : Int) (a3 : Bool) (r1 : List (S33)) (r2 : Int) (r3 : Int) (w : World) (hr0 : Kd.C k33 w A0 l0.length l0) (hc0 : l0.length ≤ c0) (h : fill_Adjust.f l0 a1 a2 a3 = some (r1, r2, r3)) :
  Calls Try.prog 11 #[.slice A0 l0.length c0, .int .i64 a1, .int .u8 a2, .bool a3] w fun e w' => ∃ v0_ : Value, e = .returned (.tuple #[v0_, .int .i64 r2, .int .i64 r3]) ∧ Kd.S k33 33 w' w.heap.size (fun _ => True) v0_ r1 ∧ Below w.heap.size w w' := by
 have q := Go.Proofs.YteadghhmoggjnaaB.Adjust_any A0 _ c0 l0 a1 a2 a3 w (Go.Proofs.YteadghhmoggjnaaB.rd_boxes hr0) hr0.2.1 (Go.Proofs.YteadghhmoggjnaaB.lens_of_C hr0)
 rw [Option.some.inj h] at q
 exact q
end Go.Proofs.Yteadghhmoggjnaa.Q
end
end
section
section
/- Plain laws of the printed functions of chapter 11: Width, Same, Row. -/
set_option linter.unusedVariables false
set_option linter.unusedSimpArgs false
namespace Go.Proofs.YteadghhmoggjnaaB
open Go.RowKit
open Go.Proofs.Yteadghhmoggjnaa.Q
open Go.Proofs.YteadghhmoggjnaaW.PrintWords Go.Proofs.YteadghhmoggjnaaW.PrintLast
set_option maxHeartbeats 800000
theorem rdT_at {l : List S33} {j : Nat} {x : S33} (h : l[j]? = some x) : rd_T33 l (j : Int) = x := by
  unfold rd_T33
  rw [Int.toNat_natCast, List.getD_eq_getElem?_getD, h]
  rfl
theorem w64_succ {j : Nat} (h : j ≤ 1000000000000) : wrap64 ((j : Int) + 1) = ((j + 1 : Nat) : Int) := by
  unfold wrap64
  omega
/-! ### Row -/
def kOf (n : Int) : Int := wrap64 (Int.tmod (IntKind.u64.wrap n) 100000)
theorem kOf_range (n : Int) : 0 ≤ kOf n ∧ kOf n < 100000 := by
  unfold kOf
  rw [IntKind.wrap_u64, Int.tmod_eq_emod_of_nonneg (by omega)]
  unfold wrap64
  omega
/-- One letter. -/
def letter (c : Int) : ByteArray := (⟨#[97, 98, 99, 100, 101, 102, 103, 104]⟩ : ByteArray).extract c.toNat (wrap64 (c + 1)).toNat
def boxRQ (r q : Int) : S33 :=
  if r = 0 ∨ r = 1 ∨ r = 2 then ⟨1, Int.tmod q 20, 0, 10, ⟨#[]⟩, ⟨#[]⟩, []⟩
  else if r = 3 ∨ r = 4 then ⟨5, 0, 0, 0, ⟨#[]⟩, ⟨#[]⟩, []⟩
  else if r = 5 then ⟨1, 5, 0, 10, ⟨#[126]⟩, ⟨#[]⟩, []⟩
  else if r = 6 then ⟨2, wrap64 (Int.tmod q 31 - 15), 0, 0, ⟨#[]⟩, ⟨#[]⟩, []⟩
  else if r = 7 then ⟨6, Int.tmod q 10, 0, 0, ⟨#[]⟩, ⟨#[]⟩, []⟩
  else ⟨0, wrap64 (5 + Int.tmod q 12), 0, 10, letter (Int.tmod q 8), ⟨#[]⟩, []⟩
def boxOf (n : Int) : S33 := boxRQ (Int.tmod (kOf n) 12) (wrap64 (Int.tdiv (kOf n) 12))
def rowL (l : List Int) : List S33 := (l.take 120).map boxOf
theorem rd_at {l : List Int} {j : Nat} {x : Int} (h : l[j]? = some x) : rd l (j : Int) = x := by
  unfold rd
  rw [Int.toNat_natCast, List.getD_eq_getElem?_getD, h]
  rfl
theorem row_step (l : List Int) {j : Nat} {n : Int} (h : l[j]? = some n) : (l.take (j + 1)).map boxOf = (l.take j).map boxOf ++ [boxOf n] := by
  obtain ⟨hj, rfl⟩ := List.getElem?_eq_some_iff.1 h
  rw [List.take_succ_eq_append_getElem hj, List.map_append]
  rfl
theorem row_one (l : List Int) (acc : List S33) (j kk r : Int) (R : List S33) (k : Nat) (hr0 : 0 ≤ r) (hr1 : r < 12) (hlen : acc.length < 1599289640401)
    (hc0 : 0 ≤ Int.tmod (wrap64 (Int.tdiv kk 12)) 8) (hc1 : Int.tmod (wrap64 (Int.tdiv kk 12)) 8 ≤ wrap64 (Int.tmod (wrap64 (Int.tdiv kk 12)) 8 + 1)) (hc2 : wrap64 (Int.tmod (wrap64 (Int.tdiv kk 12)) 8 + 1) ≤ 8)
    (ih1 : frisketlaw11_Row.l0 (k + 1) l (acc ++ [boxRQ r (wrap64 (Int.tdiv kk 12))]) (wrap64 (j + 1)) = some R) (ih2 : frisketlaw11_Row.l0 k l (acc ++ [boxRQ r (wrap64 (Int.tdiv kk 12))]) (wrap64 (j + 1)) = some R) :
    (if r = 0 then frisketlaw11_Row.j2 (k + 2) l acc j kk r (r == 0) else if r = 1 then frisketlaw11_Row.j2 (k + 2) l acc j kk r (r == 1) else frisketlaw11_Row.j2 (k + 2) l acc j kk r (r == 2)) = some R := by
  have : r = 0 ∨ r = 1 ∨ r = 2 ∨ r = 3 ∨ r = 4 ∨ r = 5 ∨ r = 6 ∨ r = 7 ∨ r = 8 ∨ r = 9 ∨ r = 10 ∨ r = 11 := by omega
  rcases this with rfl | rfl | rfl | rfl | rfl | rfl | rfl | rfl | rfl | rfl | rfl | rfl
  · rw [if_pos rfl]; unfold frisketlaw11_Row.j2; rw [if_pos (by decide)]
    show (if acc.length < 1599289640401 then _ else none) = _
    rw [if_pos hlen]; exact ih1
  · rw [if_neg (by decide), if_pos rfl]; unfold frisketlaw11_Row.j2; rw [if_pos (by decide)]
    show (if acc.length < 1599289640401 then _ else none) = _
    rw [if_pos hlen]; exact ih1
  · rw [if_neg (by decide), if_neg (by decide)]; unfold frisketlaw11_Row.j2; rw [if_pos (by decide)]
    show (if acc.length < 1599289640401 then _ else none) = _
    rw [if_pos hlen]; exact ih1
  · rw [if_neg (by decide), if_neg (by decide)]; unfold frisketlaw11_Row.j2; rw [if_neg (by decide), if_pos rfl]; unfold frisketlaw11_Row.j3; rw [if_pos (by decide), if_pos hlen]; exact ih2
  · rw [if_neg (by decide), if_neg (by decide)]; unfold frisketlaw11_Row.j2; rw [if_neg (by decide), if_neg (by decide)]; unfold frisketlaw11_Row.j3; rw [if_pos (by decide), if_pos hlen]; exact ih2
  · rw [if_neg (by decide), if_neg (by decide)]; unfold frisketlaw11_Row.j2; rw [if_neg (by decide), if_neg (by decide)]; unfold frisketlaw11_Row.j3; rw [if_neg (by decide), if_pos rfl, if_pos hlen]; exact ih2
  · rw [if_neg (by decide), if_neg (by decide)]; unfold frisketlaw11_Row.j2; rw [if_neg (by decide), if_neg (by decide)]; unfold frisketlaw11_Row.j3; rw [if_neg (by decide), if_neg (by decide), if_pos rfl, if_pos hlen]; exact ih2
  · rw [if_neg (by decide), if_neg (by decide)]; unfold frisketlaw11_Row.j2; rw [if_neg (by decide), if_neg (by decide)]; unfold frisketlaw11_Row.j3; rw [if_neg (by decide), if_neg (by decide), if_neg (by decide), if_pos rfl, if_pos hlen]; exact ih2
  all_goals (rw [if_neg (by decide), if_neg (by decide)]; unfold frisketlaw11_Row.j2; rw [if_neg (by decide), if_neg (by decide)]; unfold frisketlaw11_Row.j3; rw [if_neg (by decide), if_neg (by decide), if_neg (by decide), if_neg (by decide), if_pos hc0, if_pos hc1, if_pos hc2, if_pos hlen]; exact ih2)
theorem row_l (l : List Int) : ∀ (m j k : Nat), j ≤ l.length → j ≤ 120 → 120 = m + j → 4 * m + 2 ≤ k → frisketlaw11_Row.l0 k l ((l.take j).map boxOf) (j : Int) = some (rowL l)
  | m, j, 0, _, _, _, h => by omega
  | m, j, 1, _, _, _, h => by omega
  | m, j, k + 2, h1, h2, h3, h4 => by
    unfold frisketlaw11_Row.l0
    by_cases hj : j < l.length
    · rw [if_pos (by omega)]
      by_cases hj2 : j < 120
      · rw [show decide ((j : Int) < 120) = true from decide_eq_true (by omega)]
        unfold frisketlaw11_Row.j1
        rw [if_pos rfl, if_pos (by omega), if_pos (by omega)]
        obtain ⟨n, hn⟩ : ∃ n, l[j]? = some n := ⟨_, List.getElem?_eq_getElem hj⟩
        rw [rd_at hn, show wrap64 (Int.tmod (IntKind.u64.wrap n) 100000) = kOf n from rfl]
        obtain ⟨m, rfl⟩ : ∃ m', m = m' + 1 := ⟨m - 1, by omega⟩
        obtain ⟨k, rfl⟩ : ∃ k', k = k' + 4 := ⟨k - 4, by omega⟩
        have hk := kOf_range n
        have ih := row_l l m (j + 1) (k + 2) (by omega) (by omega) (by omega) (by omega)
        have ih3 := row_l l m (j + 1) (k + 3) (by omega) (by omega) (by omega) (by omega)
        rw [row_step l hn] at ih ih3
        have hlen : ((l.take j).map boxOf).length < 1599289640401 := by rw [List.length_map, List.length_take]; omega
        have h12 : 0 ≤ Int.tmod (kOf n) 12 ∧ Int.tmod (kOf n) 12 < 12 := by rw [Int.tmod_eq_emod_of_nonneg hk.1]; omega
        have hq0 : 0 ≤ wrap64 (Int.tdiv (kOf n) 12) ∧ wrap64 (Int.tdiv (kOf n) 12) < 100000 := by rw [Int.tdiv_eq_ediv_of_nonneg hk.1]; unfold wrap64; omega
        have hc : 0 ≤ Int.tmod (wrap64 (Int.tdiv (kOf n) 12)) 8 ∧ Int.tmod (wrap64 (Int.tdiv (kOf n) 12)) 8 < 8 := by rw [Int.tmod_eq_emod_of_nonneg hq0.1]; omega
        refine row_one l _ _ _ _ (rowL l) (k + 2) h12.1 h12.2 hlen hc.1 (by have h := hc; revert h; generalize Int.tmod (wrap64 (Int.tdiv (kOf n) 12)) 8 = c; intro h; unfold wrap64; omega) (by have h := hc; revert h; generalize Int.tmod (wrap64 (Int.tdiv (kOf n) 12)) 8 = c; intro h; unfold wrap64; omega) ?_ ?_
        · rw [w64_succ (by omega)]; exact ih3
        · rw [w64_succ (by omega)]; exact ih
      · rw [show decide ((j : Int) < 120) = false from decide_eq_false (by omega)]
        unfold frisketlaw11_Row.j1
        rw [if_neg (by decide)]
        unfold rowL
        rw [show j = 120 by omega]
    · rw [if_neg (by omega)]
      unfold frisketlaw11_Row.j1
      rw [if_neg (by decide)]
      unfold rowL
      rw [List.take_of_length_le (by omega), List.take_of_length_le (by omega)]
theorem row_f (l : List Int) {k : Nat} (hk : 482 ≤ k) : frisketlaw11_Row.f k l = some (rowL l) := row_l l 120 0 k (Nat.zero_le _) (by omega) rfl hk
theorem rowL_len (l : List Int) : (rowL l).length ≤ 120 := by
  unfold rowL
  rw [List.length_map, List.length_take]
  omega
theorem letter_all : (List.range 8).all (fun (c : Nat) => namedB (letter (c : Int))) = true := by kernel_rfl
theorem letter_ok (c : Int) (h0 : 0 ≤ c) (h1 : c < 8) : namedB (letter c) = true := by
  have h := List.all_eq_true.1 letter_all c.toNat (List.mem_range.2 (by omega))
  rw [Int.toNat_of_nonneg h0] at h
  exact h
/-- What every box of numbers is. -/
theorem boxOf_ok (n : Int) : validB (boxOf n) = true ∧ (boxOf n).f6 = [] ∧ (-15 ≤ (boxOf n).f1 ∧ (boxOf n).f1 ≤ 20) := by
  have hk := kOf_range n
  have hr : 0 ≤ Int.tmod (kOf n) 12 ∧ Int.tmod (kOf n) 12 < 12 := by rw [Int.tmod_eq_emod_of_nonneg hk.1]; omega
  have hq : 0 ≤ wrap64 (Int.tdiv (kOf n) 12) ∧ wrap64 (Int.tdiv (kOf n) 12) < 100000 := by rw [Int.tdiv_eq_ediv_of_nonneg hk.1]; unfold wrap64; omega
  have h20 : 0 ≤ Int.tmod (wrap64 (Int.tdiv (kOf n) 12)) 20 ∧ Int.tmod (wrap64 (Int.tdiv (kOf n) 12)) 20 < 20 := by rw [Int.tmod_eq_emod_of_nonneg hq.1]; omega
  have h31 : 0 ≤ Int.tmod (wrap64 (Int.tdiv (kOf n) 12)) 31 ∧ Int.tmod (wrap64 (Int.tdiv (kOf n) 12)) 31 < 31 := by rw [Int.tmod_eq_emod_of_nonneg hq.1]; omega
  have h10 : 0 ≤ Int.tmod (wrap64 (Int.tdiv (kOf n) 12)) 10 ∧ Int.tmod (wrap64 (Int.tdiv (kOf n) 12)) 10 < 10 := by rw [Int.tmod_eq_emod_of_nonneg hq.1]; omega
  have h12 : 0 ≤ Int.tmod (wrap64 (Int.tdiv (kOf n) 12)) 12 ∧ Int.tmod (wrap64 (Int.tdiv (kOf n) 12)) 12 < 12 := by rw [Int.tmod_eq_emod_of_nonneg hq.1]; omega
  have h8 : 0 ≤ Int.tmod (wrap64 (Int.tdiv (kOf n) 12)) 8 ∧ Int.tmod (wrap64 (Int.tdiv (kOf n) 12)) 8 < 8 := by rw [Int.tmod_eq_emod_of_nonneg hq.1]; omega
  have hcol : colourB ⟨#[]⟩ = true := by kernel_rfl
  unfold boxOf
  generalize Int.tmod (kOf n) 12 = r at *
  generalize wrap64 (Int.tdiv (kOf n) 12) = q at *
  have hv : ∀ x : S33, -15 ≤ x.f1 → x.f1 ≤ 20 → x.f2 = 0 → 0 ≤ x.f3 → x.f5 = ⟨#[]⟩ → validB x = (if x.f0 = 0 then namedB x.f4 && (x.f6.length == 0)
   else if x.f0 = 1 then ((x.f4.toList == []) || (x.f4.toList == [126])) && (x.f5.toList == []) && (x.f6.length == 0)
   else if x.f0 = 4 then (x.f2 == 0) && (x.f3 == 0) && (x.f4.size == 1) && strokeB x.f4 && decide (x.f6.length ≤ 40) && allI farV x.f6
   else if x.f0 = 5 then bareB x && (x.f4.toList == []) && (x.f1 == 0)
   else if x.f0 = 2 ∨ x.f0 = 3 ∨ x.f0 = 6 then bareB x && (x.f4.toList == [])
   else false) := fun x a1 a2 a3 a4 a5 => by
    unfold validB
    rw [decide_eq_false (by omega : ¬ x.f1 < -1000000), decide_eq_false (by omega : ¬ 1000000 < x.f1), decide_eq_false (by omega : ¬ x.f2 < 0), decide_eq_false (by omega : ¬ x.f3 < 0), a5, hcol]
    rfl
  have hmt : (⟨#[]⟩ : ByteArray).toList = [] := by kernel_rfl
  have htl : (⟨#[126]⟩ : ByteArray).toList = [126] := by kernel_rfl
  unfold boxRQ
  split
  · refine ⟨?_, rfl, by dsimp only; omega⟩
    rw [hv _ (by dsimp only; omega) (by dsimp only; omega) rfl (by dsimp only; omega) rfl]
    dsimp only
    rw [hmt]
    rfl
  · split
    · refine ⟨by kernel_rfl, rfl, by decide⟩
    · split
      · refine ⟨by kernel_rfl, rfl, by decide⟩
      · split
        · have e : -15 ≤ wrap64 (Int.tmod q 31 - 15) ∧ wrap64 (Int.tmod q 31 - 15) ≤ 20 := by unfold wrap64; omega
          refine ⟨?_, rfl, e⟩
          rw [hv _ e.1 e.2 rfl (by dsimp only; omega) rfl]
          dsimp only
          unfold bareB
          dsimp only
          rw [hmt]
          rfl
        · split
          · refine ⟨?_, rfl, by dsimp only; omega⟩
            rw [hv _ (by dsimp only; omega) (by dsimp only; omega) rfl (by dsimp only; omega) rfl]
            dsimp only
            unfold bareB
            dsimp only
            rw [hmt]
            rfl
          · have e : -15 ≤ wrap64 (5 + Int.tmod q 12) ∧ wrap64 (5 + Int.tmod q 12) ≤ 20 := by unfold wrap64; omega
            refine ⟨?_, rfl, e⟩
            rw [hv _ e.1 e.2 rfl (by dsimp only; omega) rfl]
            dsimp only
            rw [letter_ok _ h8.1 h8.2]
            rfl
end Go.Proofs.YteadghhmoggjnaaB
end
section
/- Plain laws: how broad a row of numbers is; Adjust at it. -/
set_option linter.unusedVariables false
namespace Go.Proofs.YteadghhmoggjnaaB
open Go.RowKit
open Go.Proofs.Yteadghhmoggjnaa.Q (S33)
open Go.Proofs.YteadghhmoggjnaaW.PrintWords Go.Proofs.YteadghhmoggjnaaW.PrintLast
theorem rowL_mem {l : List Int} {x : S33} (h : x ∈ rowL l) : ∃ n, x = boxOf n := by
  unfold rowL at h
  obtain ⟨n, -, rfl⟩ := List.mem_map.1 h
  exact ⟨n, rfl⟩
end Go.Proofs.YteadghhmoggjnaaB
end
end
