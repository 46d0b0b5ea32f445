/- The law's fixed example: sane. -/
import Derived.Test.YtpndigonlgnbeaaT15
set_option linter.unusedVariables false
set_option linter.unusedSimpArgs false
namespace Go.Proofs.Ytpndigonlgnbeaa
open Go.RowKit
set_option maxHeartbeats 400000
set_option maxRecDepth 1000000

theorem plant_sane1 : plantP 50 ⟨#[97]⟩ [] = (0, [⟨50, ⟨#[97]⟩⟩]) := by kernel_rfl
theorem plant_sane2 : plantP (-50) ⟨#[98]⟩ [⟨50, ⟨#[97]⟩⟩] = (0, [⟨50, ⟨#[97]⟩⟩, ⟨-50, ⟨#[98]⟩⟩]) := by kernel_rfl
theorem pass_sane : passP 100 49 50 [⟨50, ⟨#[97]⟩⟩, ⟨-50, ⟨#[98]⟩⟩] = [⟨50, ⟨#[97]⟩⟩, ⟨50, ⟨#[98]⟩⟩] := by kernel_rfl
theorem rd_two {w : World} {e : TypeId} {base : Nat} {v : Value} {x y : TrapT} (h : trapK.Own e w (fun _ => False) base v [x, y]) :
    ∃ g c, v = .slice (some ⟨g, 0, none⟩) 2 c ∧ w.cell? ⟨g, 0, none⟩ = some (.int .i64 x.at_) ∧ w.cell? ⟨g, 1, none⟩ = some (.string x.nm) ∧ w.cell? ⟨g, 2, none⟩ = some (.int .i64 y.at_) ∧ w.cell? ⟨g, 3, none⟩ = some (.string y.nm) := by
  obtain ⟨A, c, rfl, -, -, -, -, -⟩ := h.form
  obtain ⟨g, rfl, -, -, hr⟩ := h.rowAt (by simp)
  obtain ⟨a0, a1, -, -⟩ := row_facts (i := 0) hr rfl
  obtain ⟨b0, b1, -, -⟩ := row_facts (i := 1) hr rfl
  exact ⟨g, c, rfl, a0, a1, b0, b1⟩

theorem sane_any (w : World) : Calls Try.prog 11 #[] w fun e w' => e = .returned (.bool true) ∧ Below w.heap.size w w' := by
  have s97 : Hid ((⟨#[97]⟩ : ByteArray).size ≤ 9223372036854775807) := hide (show 1 ≤ 9223372036854775807 by omega)
  have s98 : Hid ((⟨#[98]⟩ : ByteArray).size ≤ 9223372036854775807) := hide (show 1 ≤ 9223372036854775807 by omega)
  have p1 := hide plant_sane1
  have p2 := hide plant_sane2
  have p3 := hide pass_sane
  go_enter Try.func11, Try.ntmps11
  go_upto_region 2 with (go_at_call 12; refine (new_any _).mono ?_; rintro e w1 ⟨rfl, q⟩; have HT0 : Hid (Tab w.heap.size w1 w.heap.size (.slice none 0 0) []) := hide (by rw [q]; exact new_tab w); have HB0 : Hid (Below w.heap.size w w1) := hide (by rw [q]; exact (Below.refl _ _).alloc (Nat.le_refl _) _); clear q)
  go_upto_region 3 with (go_at_call 30; refine (Plant_trap w.heap.size w.heap.size (.slice none 0 0) [] 50 ⟨#[97]⟩ _ HT0.out (by simp) HB0.out.size s97.out).mono ?_; rw [p1.out]; rintro e w2 ⟨rfl, v2, q1, q2, q3⟩; have HT1 := hide q1; have HB1 := hide (HB0.out.trans (q2.below (B := w.heap.size) HB0.out.size (fun i h => h.elim (fun h => by omega) (fun h => by cases h)))); clear q1 q2 q3)
  go_upto_region 4 with (go_at_call 30; refine (Plant_trap w.heap.size w.heap.size v2 _ (-50) ⟨#[98]⟩ _ HT1.out (by simp) HB1.out.size s98.out).mono ?_; rw [p2.out]; rintro e w3 ⟨rfl, v3, q1, q2, q3⟩; have HT2 := hide q1; have HB2 := hide (HB1.out.trans (q2.below (B := w.heap.size) HB1.out.size (fun i h => h.elim (fun h => by omega) (fun h => (HT1.out.own.lt i h).1)))); clear q1 q2 q3)
  go_upto_region 5 with (go_at_call 9; refine (Passed_ok w.heap.size w.heap.size v3 _ 100 49 50 _ HT2.out (by simp) (by omega) (by omega) (by omega) (by omega) (by omega)).mono ?_; rw [p3.out]; rintro e w4 ⟨v4, rfl, q1, q2⟩; obtain ⟨g4, c4, rfl, z0, z1, z2, z3⟩ := rd_two q1; have HB3 := hide (HB2.out.trans (q2.mono HB2.out.size)); clear q1 q2)
  go_wp2_with fail
  go_ret
  exact ⟨rfl, HB3.out⟩
end Go.Proofs.Ytpndigonlgnbeaa
