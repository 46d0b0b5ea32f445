/- Boxes and lines of chapter 03 opened, with the form's own reach. -/
import Derived.Test.YtbchokjhbjnfcaaS27
import Derived.Test.YtbchokjhbjnfcaaSEls
import Derived.Test.YtbchokjhbjnfcaaGSized
set_option linter.unusedVariables false
namespace Go.Proofs.Ytbchokjhbjnfcaa
open Go.ChangeShapes Go.WideShapes Go.ChangeAt Go.RowKit Go.Deep
set_option maxRecDepth 1000000
set_option maxHeartbeats 1600000
section
variable {H : Type} {enc : TypeId × Value → H} {w : World} {spare : Nat → Bool} {held : Bool}
theorem box_elS (n : Nat) (cs : List Value) (y : DataW H × List MemPlace) (hl : cs.length = boxK.sz) (h : DataW.trod enc Try.prog w 0 spare held n 76 cs = some y) (hy : Light Try.prog 76 y.1) : ∃ z : BoxT, boxK.K w (fun _ => True) z cs ∧ z.ns.length ≤ 17592186044416 := by
  obtain ⟨ys, n', -, hye, -, hyl, hf⟩ := DataW.trod_struct Try.underlying76 h
  rw [hye] at hy
  have h7 : cs.length = 7 := hl
  match cs, h7 with
  | [a0, a1, a2, a3, a4, a5, a6], _ =>
    have f0 := hf 0 _ rfl
    have f1 := hf 1 _ rfl
    have f2 := hf 2 _ rfl
    have f3 := hf 3 _ rfl
    have f4 := hf 4 _ rfl
    have f5 := hf 5 _ rfl
    have f6 := hf 6 _ rfl
    have hy7 : ys.length = 7 := hyl
    have wS := hy.field Try.underlying76 (i := 6) rfl (List.getElem?_eq_getElem (by omega))
    rw [List.getElem?_eq_getElem (by omega)] at f0 f1 f2 f3 f4 f5 f6
    have ci : Try.prog.cellsOf 3 = 1 := by kernel_rfl
    have cs1 : Try.prog.cellsOf 9 = 1 := by kernel_rfl
    have cl : Try.prog.cellsOf 74 = 1 := by kernel_rfl
    obtain ⟨k0, e0, -, -⟩ := DataW.trod_int Try.underlying3 f0
    obtain ⟨k1, e1, -, -⟩ := DataW.trod_int Try.underlying3 f1
    obtain ⟨k2, e2, -, -⟩ := DataW.trod_int Try.underlying3 f2
    obtain ⟨k3, e3, -, -⟩ := DataW.trod_int Try.underlying3 f3
    obtain ⟨s4, e4, -, -⟩ := DataW.trod_string Try.underlying9 f4
    obtain ⟨s5, e5, -, -⟩ := DataW.trod_string Try.underlying9 f5
    have bi : Try.prog.bytesOf 3 = 8 := by kernel_rfl
    obtain ⟨A, m, c, l, e6, hmc, hcm, hr, -, hwt⟩ := open_kindS Kind.int (fun _ => True) Try.underlying74 (by kernel_rfl) (by decide) int_elS f6 wS
    rw [bi, reach_eq] at hwt
    have g0 : List.take (Try.prog.cellsOf 3) [a0, a1, a2, a3, a4, a5, a6] = [.int .i64 k0] := e0
    have g1 : List.take (Try.prog.cellsOf 3) [a1, a2, a3, a4, a5, a6] = [.int .i64 k1] := e1
    have g2 : List.take (Try.prog.cellsOf 3) [a2, a3, a4, a5, a6] = [.int .i64 k2] := e2
    have g3 : List.take (Try.prog.cellsOf 3) [a3, a4, a5, a6] = [.int .i64 k3] := e3
    have g4 : List.take (Try.prog.cellsOf 9) [a4, a5, a6] = [.string s4] := e4
    have g5 : List.take (Try.prog.cellsOf 9) [a5, a6] = [.string s5] := e5
    have g6 : List.take (Try.prog.cellsOf 74) [a6] = [.slice A m c] := e6
    rw [ci] at g0 g1 g2 g3
    rw [cs1] at g4 g5
    rw [cl] at g6
    have z0 : a0 = .int .i64 k0 := by simpa using g0
    have z1 : a1 = .int .i64 k1 := by simpa using g1
    have z2 : a2 = .int .i64 k2 := by simpa using g2
    have z3 : a3 = .int .i64 k3 := by simpa using g3
    have z4 : a4 = .string s4 := by simpa using g4
    have z5 : a5 = .string s5 := by simpa using g5
    have z6 : a6 = .slice A m c := by simpa using g6
    have hm : maxLen = 9223372036854775807 := rfl
    have hln : l.length = m := hr.1
    subst hln
    exact ⟨⟨k0, k1, k2, k3, s4, s5, l⟩, ⟨A, c, by rw [z0, z1, z2, z3, z4, z5, z6]; rfl, hmc, by omega, hr⟩, by show l.length ≤ _; omega⟩
theorem line_elS (n : Nat) (cs : List Value) (y : DataW H × List MemPlace) (hl : cs.length = lineK.sz) (h : DataW.trod enc Try.prog w 0 spare held n 61 cs = some y) (hy : Light Try.prog 61 y.1) : ∃ z : LineT, lineK.K w (fun _ => True) z cs ∧ ∀ y ∈ z.boxes, y.ns.length ≤ 17592186044416 := by
  obtain ⟨ys, n', -, hye, -, hyl, hf⟩ := DataW.trod_struct Try.underlying61 h
  rw [hye] at hy
  have h7 : cs.length = 5 := hl
  match cs, h7 with
  | [a0, a1, a2, a3, a4], _ =>
    have f0 := hf 0 _ rfl
    have f1 := hf 1 _ rfl
    have f2 := hf 2 _ rfl
    have f3 := hf 3 _ rfl
    have f4 := hf 4 _ rfl
    have hy7 : ys.length = 5 := hyl
    have wS := hy.field Try.underlying61 (i := 4) rfl (List.getElem?_eq_getElem (by omega))
    rw [List.getElem?_eq_getElem (by omega)] at f0 f1 f2 f3 f4
    have ci : Try.prog.cellsOf 3 = 1 := by kernel_rfl
    have cb : Try.prog.cellsOf 4 = 1 := by kernel_rfl
    have cs1 : Try.prog.cellsOf 9 = 1 := by kernel_rfl
    have cl : Try.prog.cellsOf 59 = 1 := by kernel_rfl
    obtain ⟨s0, e0, -, hs⟩ := DataW.trod_string Try.underlying9 f0
    obtain ⟨b1, e1, -⟩ := DataW.trod_bool Try.underlying4 f1
    obtain ⟨k2, e2, -, -⟩ := DataW.trod_int Try.underlying3 f2
    obtain ⟨k3, e3, -, -⟩ := DataW.trod_int Try.underlying3 f3
    obtain ⟨A, m, c, l, e4, hmc, hcm, hr, hpz, -⟩ := open_kindS boxK (fun z => z.ns.length ≤ 17592186044416) Try.underlying59 (by kernel_rfl) (by decide) box_elS f4 wS
    have g0 : List.take (Try.prog.cellsOf 9) [a0, a1, a2, a3, a4] = [.string s0] := e0
    have g1 : List.take (Try.prog.cellsOf 4) [a1, a2, a3, a4] = [.bool b1] := e1
    have g2 : List.take (Try.prog.cellsOf 3) [a2, a3, a4] = [.int .i64 k2] := e2
    have g3 : List.take (Try.prog.cellsOf 3) [a3, a4] = [.int .i64 k3] := e3
    have g4 : List.take (Try.prog.cellsOf 59) [a4] = [.slice A m c] := e4
    rw [ci] at g2 g3
    rw [cb] at g1
    rw [cs1] at g0
    rw [cl] at g4
    have z0 : a0 = .string s0 := by simpa using g0
    have z1 : a1 = .bool b1 := by simpa using g1
    have z2 : a2 = .int .i64 k2 := by simpa using g2
    have z3 : a3 = .int .i64 k3 := by simpa using g3
    have z4 : a4 = .slice A m c := by simpa using g4
    have hm : maxLen = 9223372036854775807 := rfl
    have hln : l.length = m := hr.1
    subst hln
    exact ⟨⟨s0, b1, k2, k3, l⟩, ⟨A, c, by rw [z0, z1, z2, z3, z4]; rfl, by show s0.size ≤ 9223372036854775807; omega, hmc, by omega, hr⟩, hpz⟩
end
end Go.Proofs.Ytbchokjhbjnfcaa
