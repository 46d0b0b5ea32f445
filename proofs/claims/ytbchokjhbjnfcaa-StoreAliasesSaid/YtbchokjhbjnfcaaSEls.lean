/- Arguments opened: boxes, lines, deeds of chapter 03. -/
import Derived.Test.YtbchokjhbjnfcaaS13
import Derived.Test.YtbchokjhbjnfcaaGEls
import Derived.Test.YtbchokjhbjnfcaaGOpen2
set_option linter.unusedVariables false
namespace Go.Proofs.Ytbchokjhbjnfcaa
open Go.ChangeShapes Go.WideShapes Go.ChangeAt Go.RowKit
set_option maxRecDepth 1000000
set_option maxHeartbeats 1600000

section
variable {H : Type} {enc : TypeId × Value → H} {w : World} {spare : Nat → Bool} {held : Bool}
theorem box_el (n : Nat) (cs : List Value) (y : DataW H × List MemPlace) (hl : cs.length = boxK.sz) (h : DataW.trod enc Try.prog w 0 spare held n 76 cs = some y) : ∃ z : BoxT, boxK.K w (fun _ => True) z cs := by
  obtain ⟨ys, n', -, -, -, hyl, hf⟩ := DataW.trod_struct Try.underlying76 h
  have h7 : cs.length = 7 := hl
  match cs, h7 with
  | [a0, a1, a2, a3, a4, a5, a6], _ =>
    have f0 := hf 0 _ rfl
    have f1 := hf 1 _ rfl
    have f2 := hf 2 _ rfl
    have f3 := hf 3 _ rfl
    have f4 := hf 4 _ rfl
    have f5 := hf 5 _ rfl
    have f6 := hf 6 _ rfl
    have hy : ys.length = 7 := hyl
    rw [List.getElem?_eq_getElem (by omega)] at f0 f1 f2 f3 f4 f5 f6
    have ci : Try.prog.cellsOf 3 = 1 := by kernel_rfl
    have cs1 : Try.prog.cellsOf 9 = 1 := by kernel_rfl
    have cl : Try.prog.cellsOf 74 = 1 := by kernel_rfl
    obtain ⟨k0, e0, -, -⟩ := DataW.trod_int Try.underlying3 f0
    obtain ⟨k1, e1, -, -⟩ := DataW.trod_int Try.underlying3 f1
    obtain ⟨k2, e2, -, -⟩ := DataW.trod_int Try.underlying3 f2
    obtain ⟨k3, e3, -, -⟩ := DataW.trod_int Try.underlying3 f3
    obtain ⟨s4, e4, -, -⟩ := DataW.trod_string Try.underlying9 f4
    obtain ⟨s5, e5, -, -⟩ := DataW.trod_string Try.underlying9 f5
    obtain ⟨A, m, c, l, e6, hmc, hcm, hr⟩ := open_kind_cells Kind.int Try.underlying74 (by kernel_rfl) (by decide) int_el f6
    have g0 : List.take (Try.prog.cellsOf 3) [a0, a1, a2, a3, a4, a5, a6] = [.int .i64 k0] := e0
    have g1 : List.take (Try.prog.cellsOf 3) [a1, a2, a3, a4, a5, a6] = [.int .i64 k1] := e1
    have g2 : List.take (Try.prog.cellsOf 3) [a2, a3, a4, a5, a6] = [.int .i64 k2] := e2
    have g3 : List.take (Try.prog.cellsOf 3) [a3, a4, a5, a6] = [.int .i64 k3] := e3
    have g4 : List.take (Try.prog.cellsOf 9) [a4, a5, a6] = [.string s4] := e4
    have g5 : List.take (Try.prog.cellsOf 9) [a5, a6] = [.string s5] := e5
    have g6 : List.take (Try.prog.cellsOf 74) [a6] = [.slice A m c] := e6
    rw [ci] at g0 g1 g2 g3
    rw [cs1] at g4 g5
    rw [cl] at g6
    have z0 : a0 = .int .i64 k0 := by simpa using g0
    have z1 : a1 = .int .i64 k1 := by simpa using g1
    have z2 : a2 = .int .i64 k2 := by simpa using g2
    have z3 : a3 = .int .i64 k3 := by simpa using g3
    have z4 : a4 = .string s4 := by simpa using g4
    have z5 : a5 = .string s5 := by simpa using g5
    have z6 : a6 = .slice A m c := by simpa using g6
    have hm : maxLen = 9223372036854775807 := rfl
    have hln : l.length = m := hr.1
    subst hln
    exact ⟨⟨k0, k1, k2, k3, s4, s5, l⟩, A, c, by rw [z0, z1, z2, z3, z4, z5, z6]; rfl, hmc, by omega, hr⟩
theorem line_el (n : Nat) (cs : List Value) (y : DataW H × List MemPlace) (hl : cs.length = lineK.sz) (h : DataW.trod enc Try.prog w 0 spare held n 61 cs = some y) : ∃ z : LineT, lineK.K w (fun _ => True) z cs := by
  obtain ⟨ys, n', -, -, -, hyl, hf⟩ := DataW.trod_struct Try.underlying61 h
  have h7 : cs.length = 5 := hl
  match cs, h7 with
  | [a0, a1, a2, a3, a4], _ =>
    have f0 := hf 0 _ rfl
    have f1 := hf 1 _ rfl
    have f2 := hf 2 _ rfl
    have f3 := hf 3 _ rfl
    have f4 := hf 4 _ rfl
    have hy : ys.length = 5 := hyl
    rw [List.getElem?_eq_getElem (by omega)] at f0 f1 f2 f3 f4
    have ci : Try.prog.cellsOf 3 = 1 := by kernel_rfl
    have cb : Try.prog.cellsOf 4 = 1 := by kernel_rfl
    have cs1 : Try.prog.cellsOf 9 = 1 := by kernel_rfl
    have cl : Try.prog.cellsOf 59 = 1 := by kernel_rfl
    obtain ⟨s0, e0, -, hs⟩ := DataW.trod_string Try.underlying9 f0
    obtain ⟨b1, e1, -⟩ := DataW.trod_bool Try.underlying4 f1
    obtain ⟨k2, e2, -, -⟩ := DataW.trod_int Try.underlying3 f2
    obtain ⟨k3, e3, -, -⟩ := DataW.trod_int Try.underlying3 f3
    obtain ⟨A, m, c, l, e4, hmc, hcm, hr⟩ := open_kind_cells boxK Try.underlying59 (by kernel_rfl) (by decide) box_el f4
    have g0 : List.take (Try.prog.cellsOf 9) [a0, a1, a2, a3, a4] = [.string s0] := e0
    have g1 : List.take (Try.prog.cellsOf 4) [a1, a2, a3, a4] = [.bool b1] := e1
    have g2 : List.take (Try.prog.cellsOf 3) [a2, a3, a4] = [.int .i64 k2] := e2
    have g3 : List.take (Try.prog.cellsOf 3) [a3, a4] = [.int .i64 k3] := e3
    have g4 : List.take (Try.prog.cellsOf 59) [a4] = [.slice A m c] := e4
    rw [ci] at g2 g3
    rw [cb] at g1
    rw [cs1] at g0
    rw [cl] at g4
    have z0 : a0 = .string s0 := by simpa using g0
    have z1 : a1 = .bool b1 := by simpa using g1
    have z2 : a2 = .int .i64 k2 := by simpa using g2
    have z3 : a3 = .int .i64 k3 := by simpa using g3
    have z4 : a4 = .slice A m c := by simpa using g4
    have hm : maxLen = 9223372036854775807 := rfl
    have hln : l.length = m := hr.1
    subst hln
    exact ⟨⟨s0, b1, k2, k3, l⟩, A, c, by rw [z0, z1, z2, z3, z4]; rfl, by show s0.size ≤ 9223372036854775807; omega, hmc, by omega, hr⟩
theorem deed_el (n : Nat) (cs : List Value) (y : DataW H × List MemPlace) (hl : cs.length = deedK.sz) (h : DataW.trod enc Try.prog w 0 spare held n 44 cs = some y) : ∃ z : DeedS, deedK.K w (fun _ => True) z cs := by
  obtain ⟨ys, n', -, -, -, hyl, hf⟩ := DataW.trod_struct Try.underlying44 h
  have h7 : cs.length = 7 := hl
  match cs, h7 with
  | [a0, a1, a2, a3, a4, a5, a6], _ =>
    have f0 := hf 0 _ rfl
    have f1 := hf 1 _ rfl
    have f2 := hf 2 _ rfl
    have f3 := hf 3 _ rfl
    have f4 := hf 4 _ rfl
    have f5 := hf 5 _ rfl
    have f6 := hf 6 _ rfl
    have hy : ys.length = 7 := hyl
    rw [List.getElem?_eq_getElem (by omega)] at f0 f1 f2 f3 f4 f5 f6
    have ci : Try.prog.cellsOf 3 = 1 := by kernel_rfl
    have cs1 : Try.prog.cellsOf 9 = 1 := by kernel_rfl
    have cl : Try.prog.cellsOf 37 = 1 := by kernel_rfl
    obtain ⟨k0, e0, -, -⟩ := DataW.trod_int Try.underlying3 f0
    obtain ⟨s1, e1, -, h1⟩ := DataW.trod_string Try.underlying9 f1
    obtain ⟨s2, e2, -, h2⟩ := DataW.trod_string Try.underlying9 f2
    obtain ⟨s3, e3, -, h3⟩ := DataW.trod_string Try.underlying9 f3
    obtain ⟨A, m, c, l, e4, hmc, hcm, hr⟩ := open_kind_cells lineK Try.underlying37 (by kernel_rfl) (by decide) line_el f4
    obtain ⟨k5, e5, -, -⟩ := DataW.trod_int Try.underlying3 f5
    obtain ⟨k6, e6, -, -⟩ := DataW.trod_int Try.underlying3 f6
    have g0 : List.take (Try.prog.cellsOf 3) [a0, a1, a2, a3, a4, a5, a6] = [.int .i64 k0] := e0
    have g1 : List.take (Try.prog.cellsOf 9) [a1, a2, a3, a4, a5, a6] = [.string s1] := e1
    have g2 : List.take (Try.prog.cellsOf 9) [a2, a3, a4, a5, a6] = [.string s2] := e2
    have g3 : List.take (Try.prog.cellsOf 9) [a3, a4, a5, a6] = [.string s3] := e3
    have g4 : List.take (Try.prog.cellsOf 37) [a4, a5, a6] = [.slice A m c] := e4
    have g5 : List.take (Try.prog.cellsOf 3) [a5, a6] = [.int .i64 k5] := e5
    have g6 : List.take (Try.prog.cellsOf 3) [a6] = [.int .i64 k6] := e6
    rw [ci] at g0 g5 g6
    rw [cs1] at g1 g2 g3
    rw [cl] at g4
    have z0 : a0 = .int .i64 k0 := by simpa using g0
    have z1 : a1 = .string s1 := by simpa using g1
    have z2 : a2 = .string s2 := by simpa using g2
    have z3 : a3 = .string s3 := by simpa using g3
    have z4 : a4 = .slice A m c := by simpa using g4
    have z5 : a5 = .int .i64 k5 := by simpa using g5
    have z6 : a6 = .int .i64 k6 := by simpa using g6
    have hm : maxLen = 9223372036854775807 := rfl
    have hln : l.length = m := hr.1
    subst hln
    exact ⟨⟨k0, s1, s2, s3, l, k5, k6⟩, A, c, by rw [z0, z1, z2, z3, z4, z5, z6]; rfl, by show s1.size ≤ 9223372036854775807; omega, by show s2.size ≤ 9223372036854775807; omega, by show s3.size ≤ 9223372036854775807; omega, hmc, by omega, hr⟩
theorem open_deed {r : Reach} {b0 : Nat} {v : Value} {x : DataW H} {ps : List MemPlace} (hval : Value.okWide Try.prog w r b0 44 v) (h : DataW.Trod enc Try.prog w 0 spare held 44 v x ps) :
    ∃ (z : DeedS) (A : Option Addr) (c : Nat), v = .agg (z.cells A c).toArray ∧ deedK.K w (fun _ => True) z (z.cells A c) := by
  obtain ⟨cs, rfl, hsz⟩ := okWide_struct Try.underlying44 hval
  obtain ⟨fuel, hf⟩ := h
  have hc : Try.prog.cellsOf 44 = 7 := by kernel_rfl
  obtain ⟨z, hz⟩ := deed_el fuel cs.toList _ (by rw [Array.length_toList, hsz, hc]; rfl) hf
  obtain ⟨A, c, e, -⟩ := id hz
  exact ⟨z, A, c, by rw [← e, Array.toArray_toList], by rw [← e]; exact hz⟩
end
end Go.Proofs.Ytbchokjhbjnfcaa
