import Derived.Test.YteadghhmoggjnaaFA13
import Derived.Test.YteadghhmoggjnaaFA3
import Derived.Test.YteadghhmoggjnaaFA4
section
section
/- From this seat's words to the printed ones: what the given functions say. -/
set_option linter.unusedVariables false
set_option linter.unusedSimpArgs false
namespace Go.Proofs.YteadghhmoggjnaaB
open Go.RowKit
open Go.Proofs.Yteadghhmoggjnaa.Q (S33 k33 z33 k33_open k33_mk k33_mkM)
open Go.Proofs.YteadghhmoggjnaaW.PrintWords (Kd ReadsRow)
set_option maxHeartbeats 800000
theorem cell_putObj_none {W : World} {a : Addr} (hlt : a.block < W.heap.size) : (W.putObj a.block (.deferred none)).cell? a = none := by
 have h : (W.putObj a.block (.deferred none)).heap[a.block]? = some (.deferred none) := World.putObj_heap_same hlt
 unfold World.cell?
 rw [h]
theorem C_boxes {w : World} {ok : Nat → Prop} {A : Option Addr} {n : Nat} {l : List S33} (hn : n ≤ 9223372036854775807) (hlen : ∀ x ∈ l, x.f6.length ≤ 9223372036854775807) (h : boxK.Rd w ok A n l) : k33.C w A n l := by
 refine ⟨h.1, hn, fun hp => ?_⟩
 obtain ⟨b, off, rfl, -, -, hc⟩ := h.2 hp
 refine ⟨_, rfl, fun j x hx => ?_⟩
 obtain ⟨cs, ⟨A6, c6, rfl, h6, hr6⟩, hcs⟩ := hc j x hx
 refine ⟨_, rfl, k33_mk w x h6 (C_ints (hlen x (List.mem_of_getElem? hx)) hr6), fun i u hu => ?_⟩
 rw [Addr.add_lit]
 have := hcs i u hu
 rw [← this, Nat.add_assoc]
 rfl
theorem rd_of_F {W : World} {ok : Nat → Prop} {A : Option Addr} {n : Nat} {l : List S33} (h : Kd.F k33 W ok A n l) : boxK.Rd W ok A n l := by
 have h0 := rd_boxes (Kd.F_now h)
 refine ⟨h0.1, fun hp => ?_⟩
 obtain ⟨b, off, rfl, -, hlt, hc⟩ := h0.2 hp
 have hne : ∀ k, ¬ ok k → ∀ j, ok j → j < W.heap.size → (W.putObj k (.deferred none)).heap[j]? = W.heap[j]? := fun k hk j hj _ => World.putObj_heap_other (by rintro rfl; exact hk hj)
 have hb : ok b := by
  apply Classical.byContradiction
  intro hk
  have h1 := rd_boxes (h _ (hne b hk))
  obtain ⟨b', off', e, -, -, hc'⟩ := h1.2 hp
  injection e with e
  injection e with e1 e2
  subst e1
  obtain ⟨x0, hx0⟩ : ∃ x, l[0]? = some x := ⟨_, List.getElem?_eq_getElem (by rw [h0.1]; exact hp)⟩
  obtain ⟨cs, ⟨A6, c6, rfl, -, -⟩, hcs⟩ := hc' 0 x0 hx0
  have h2 := hcs 0 _ rfl
  rw [cell_putObj_none (a := ⟨b, _, none⟩) hlt] at h2
  cases h2
 refine ⟨b, off, rfl, hb, hlt, fun i x hx => ?_⟩
 obtain ⟨cs, ⟨A6, c6, rfl, h6, hr6⟩, hcs⟩ := hc i x hx
 refine ⟨_, ⟨A6, c6, rfl, h6, hr6.1, fun hp6 => ?_⟩, hcs⟩
 obtain ⟨b6, o6, rfl, -, hlt6, hc6⟩ := hr6.2 hp6
 have hb6 : ok b6 := by
  apply Classical.byContradiction
  intro hk
  have h1 := rd_boxes (h _ (hne b6 hk))
  obtain ⟨b', off', e, -, -, hc'⟩ := h1.2 hp
  injection e with e
  injection e with e1 e2
  subst e1
  subst e2
  obtain ⟨cs', ⟨A6', c6', rfl, -, hr6'⟩, hcs'⟩ := hc' i x hx
  have hbb : b ≠ b6 := by rintro rfl; exact hk hb
  have h2 := hcs' 6 _ rfl
  have h3 := hcs 6 _ rfl
  have h4 : (W.putObj b6 (.deferred none)).cell? ⟨b, off + i * boxK.sz + 6, none⟩ = W.cell? ⟨b, off + i * boxK.sz + 6, none⟩ := by
   unfold World.cell?
   rw [World.putObj_heap_other (show b ≠ b6 from hbb)]
  rw [h4, h3] at h2
  injection h2 with h2
  injection h2 with h2 _ _
  subst h2
  obtain ⟨b'', o'', e, -, -, hc''⟩ := hr6'.2 hp6
  injection e with e
  injection e with e1 e2
  subst e1
  obtain ⟨y0, hy0⟩ : ∃ y, x.f6[0]? = some y := ⟨_, List.getElem?_eq_getElem hp6⟩
  obtain ⟨cs', hk', hcs'⟩ := hc'' 0 y0 hy0
  have e1 : cs' = [Value.int .i64 y0] := hk'
  subst e1
  have h5 := hcs' 0 _ rfl
  rw [cell_putObj_none (a := ⟨b6, _, none⟩) hlt6] at h5
  cases h5
 exact ⟨b6, o6, rfl, hb6, hlt6, hc6⟩
theorem rd_of_Fi {W : World} {ok : Nat → Prop} {A : Option Addr} {n : Nat} {l : List Int} (h : Kd.F (Kd.int .i64) W ok A n l) : Kind.int.Rd W ok A n l := by
 have h0 := rd_ints (Kd.F_now h)
 refine ⟨h0.1, fun hp => ?_⟩
 obtain ⟨b, off, rfl, -, hlt, hc⟩ := h0.2 hp
 have hb : ok b := by
  apply Classical.byContradiction
  intro hk
  have h1 := rd_ints (h (W.putObj b (.deferred none)) (fun j hj _ => World.putObj_heap_other (by rintro rfl; exact hk hj)))
  obtain ⟨b', off', e, -, -, hc'⟩ := h1.2 hp
  injection e with e
  injection e with e1 e2
  subst e1
  obtain ⟨x0, hx0⟩ : ∃ x, l[0]? = some x := ⟨_, List.getElem?_eq_getElem (by rw [h0.1]; exact hp)⟩
  obtain ⟨cs, hk', hcs⟩ := hc' 0 x0 hx0
  have e1 : cs = [Value.int .i64 x0] := hk'
  subst e1
  have h2 := hcs 0 _ rfl
  rw [cell_putObj_none (a := ⟨b, _, none⟩) hlt] at h2
  cases h2
 exact ⟨b, off, rfl, hb, hlt, hc⟩
theorem V_of_slrd {w : World} {ok : Nat → Prop} {v : Value} {l : List S33} {e base : Nat} (h : SlRd w ok v l) (hn : l.length ≤ 9223372036854775807) (hlen : ∀ x ∈ l, x.f6.length ≤ 9223372036854775807) : Kd.V k33 e w base ok v l := by
 obtain ⟨A, c, rfl, hc, hr⟩ := h
 exact ⟨A, c, rfl, hc, fun W' hW => C_boxes hn hlen (hr.step hW)⟩
/-- Sizes that memory bears. -/
def okL (l : List S33) : Bool := decide (l.length ≤ 1000000000000) && l.all (fun x => decide (x.f6.length ≤ 17592186044416))
theorem okL_len {l : List S33} (h : okL l = true) : l.length ≤ 1000000000000 := by
 unfold okL at h
 rw [Bool.and_eq_true] at h
 exact of_decide_eq_true h.1
theorem okL_small {l : List S33} (h : okL l = true) : ∀ x ∈ l, x.f6.length ≤ 17592186044416 := fun x hx => by
 unfold okL at h
 rw [Bool.and_eq_true] at h
 exact of_decide_eq_true (List.all_eq_true.1 h.2 x hx)
theorem okL_max {l : List S33} (h : okL l = true) : ∀ x ∈ l, x.f6.length ≤ 9223372036854775807 := fun x hx => Nat.le_trans (okL_small h x hx) (by decide)
theorem of_if {α : Type} {b : Bool} {x y : α} (h : (if b = true then some x else none) = some y) : b = true ∧ x = y := by
 cases b with
 | true => exact ⟨rfl, by simpa using h⟩
 | false => simp at h
end Go.Proofs.YteadghhmoggjnaaB
end
section
namespace Go.Proofs.Yteadghhmoggjnaa.Q
open Go.RowKit Go.Proofs.YteadghhmoggjnaaW.PrintWords Go.Proofs.YteadghhmoggjnaaW.PrintLast

set_option linter.unusedVariables false
set_option linter.unusedSimpArgs false
-- GIVEN by hand
-- GIVEN IMPORT Derived.Test.YteadghhmoggjnaaF16
/-! ### fill_Adjust: function 11 -/
def fill_Adjust.f (l0 : List (S33)) (a1 : Int) (a2 : Int) (a3 : Bool) : Option ((List (S33)) × Int × Int) := some (Go.Proofs.YteadghhmoggjnaaB.adjL l0 a1 a2 a3)
theorem fill_Adjust.calls (A0 : Option Addr) (c0 : Nat) (l0 : List (S33)) (a1 : Int) (a2 : Int) (a3 : Bool) (r1 : List (S33)) (r2 : Int) (r3 : Int) (w : World) (hr0 : Kd.C k33 w A0 l0.length l0) (hc0 : l0.length ≤ c0) (h : fill_Adjust.f l0 a1 a2 a3 = some (r1, r2, r3)) :
  Calls Try.prog 11 #[.slice A0 l0.length c0, .int .i64 a1, .int .u8 a2, .bool a3] w fun e w' => ∃ v0_ : Value, e = .returned (.tuple #[v0_, .int .i64 r2, .int .i64 r3]) ∧ Kd.S k33 33 w' w.heap.size (fun _ => True) v0_ r1 ∧ Below w.heap.size w w' := by
 have q := Go.Proofs.YteadghhmoggjnaaB.Adjust_any A0 _ c0 l0 a1 a2 a3 w (Go.Proofs.YteadghhmoggjnaaB.rd_boxes hr0) hr0.2.1 (Go.Proofs.YteadghhmoggjnaaB.lens_of_C hr0)
 rw [Option.some.inj h] at q
 exact q
end Go.Proofs.Yteadghhmoggjnaa.Q
end
end
