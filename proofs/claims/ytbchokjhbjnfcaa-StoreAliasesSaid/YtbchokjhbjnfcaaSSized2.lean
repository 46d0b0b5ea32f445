/- Lines and deeds of chapter 03 opened, with all their sizes. -/
import Derived.Test.YtbchokjhbjnfcaaSSized
import Derived.Test.YtbchokjhbjnfcaaS33
set_option linter.unusedVariables false
namespace Go.Proofs.Ytbchokjhbjnfcaa
open Go.ChangeShapes Go.WideShapes Go.ChangeAt Go.RowKit Go.Deep
set_option maxRecDepth 1000000
set_option maxHeartbeats 1600000
def LineLight (z : LineT) : Prop := z.text.size ≤ 281474976710656 ∧ z.boxes.length ≤ 281474976710656 ∧ ∀ y ∈ z.boxes, y.ns.length ≤ 17592186044416
section
variable {H : Type} {enc : TypeId × Value → H} {w : World} {spare : Nat → Bool} {held : Bool}
theorem line_elT (n : Nat) (cs : List Value) (y : DataW H × List MemPlace) (hl : cs.length = lineK.sz) (h : DataW.trod enc Try.prog w 0 spare held n 61 cs = some y) (hy : Light Try.prog 61 y.1) : ∃ z : LineT, lineK.K w (fun _ => True) z cs ∧ LineLight z := by
  obtain ⟨ys, n', -, hye, -, hyl, hf⟩ := DataW.trod_struct Try.underlying61 h
  rw [hye] at hy
  have h7 : cs.length = 5 := hl
  match cs, h7 with
  | [a0, a1, a2, a3, a4], _ =>
    have f0 := hf 0 _ rfl
    have f1 := hf 1 _ rfl
    have f2 := hf 2 _ rfl
    have f3 := hf 3 _ rfl
    have f4 := hf 4 _ rfl
    have hy7 : ys.length = 5 := hyl
    have wS := hy.field Try.underlying61 (i := 4) rfl (List.getElem?_eq_getElem (by omega))
    have wT := hy.field Try.underlying61 (i := 0) rfl (List.getElem?_eq_getElem (by omega))
    rw [List.getElem?_eq_getElem (by omega)] at f0 f1 f2 f3 f4
    have ci : Try.prog.cellsOf 3 = 1 := by kernel_rfl
    have cb : Try.prog.cellsOf 4 = 1 := by kernel_rfl
    have cs1 : Try.prog.cellsOf 9 = 1 := by kernel_rfl
    have cl : Try.prog.cellsOf 59 = 1 := by kernel_rfl
    have bb : Try.prog.bytesOf 76 = 88 := by kernel_rfl
    obtain ⟨s0, e0, ey0, hs⟩ := DataW.trod_string Try.underlying9 f0
    rw [ey0] at wT
    have hts : s0.size ≤ reachBytes := Light.str wT
    obtain ⟨b1, e1, -⟩ := DataW.trod_bool Try.underlying4 f1
    obtain ⟨k2, e2, -, -⟩ := DataW.trod_int Try.underlying3 f2
    obtain ⟨k3, e3, -, -⟩ := DataW.trod_int Try.underlying3 f3
    obtain ⟨A, m, c, l, e4, hmc, hcm, hr, hpz, hwt⟩ := open_kindS boxK (fun z => z.ns.length ≤ 17592186044416) Try.underlying59 (by kernel_rfl) (by decide) box_elS f4 wS
    have g0 : List.take (Try.prog.cellsOf 9) [a0, a1, a2, a3, a4] = [.string s0] := e0
    have g1 : List.take (Try.prog.cellsOf 4) [a1, a2, a3, a4] = [.bool b1] := e1
    have g2 : List.take (Try.prog.cellsOf 3) [a2, a3, a4] = [.int .i64 k2] := e2
    have g3 : List.take (Try.prog.cellsOf 3) [a3, a4] = [.int .i64 k3] := e3
    have g4 : List.take (Try.prog.cellsOf 59) [a4] = [.slice A m c] := e4
    rw [ci] at g2 g3
    rw [cb] at g1
    rw [cs1] at g0
    rw [cl] at g4
    have z0 : a0 = .string s0 := by simpa using g0
    have z1 : a1 = .bool b1 := by simpa using g1
    have z2 : a2 = .int .i64 k2 := by simpa using g2
    have z3 : a3 = .int .i64 k3 := by simpa using g3
    have z4 : a4 = .slice A m c := by simpa using g4
    have hm : maxLen = 9223372036854775807 := rfl
    have hln : l.length = m := hr.1
    subst hln
    exact ⟨⟨s0, b1, k2, k3, l⟩, ⟨A, c, by rw [z0, z1, z2, z3, z4]; rfl, by show s0.size ≤ 9223372036854775807; omega, hmc, by omega, hr⟩, by rw [reach_eq] at hts; show s0.size ≤ _; omega, by rw [bb, reach_eq] at hwt; show l.length ≤ _; omega, hpz⟩
theorem deed_elT (n : Nat) (cs : List Value) (y : DataW H × List MemPlace) (hl : cs.length = deedK.sz) (h : DataW.trod enc Try.prog w 0 spare held n 44 cs = some y) (hy : Light Try.prog 44 y.1) : ∃ z : DeedS, deedK.K w (fun _ => True) z cs ∧ (z.light ∧ ∀ y ∈ z.lines, ∀ q ∈ y.boxes, q.ns.length ≤ 17592186044416) := by
  obtain ⟨ys, n', -, hye, -, hyl, hf⟩ := DataW.trod_struct Try.underlying44 h
  rw [hye] at hy
  have h7 : cs.length = 7 := hl
  match cs, h7 with
  | [a0, a1, a2, a3, a4, a5, a6], _ =>
    have f0 := hf 0 _ rfl
    have f1 := hf 1 _ rfl
    have f2 := hf 2 _ rfl
    have f3 := hf 3 _ rfl
    have f4 := hf 4 _ rfl
    have f5 := hf 5 _ rfl
    have f6 := hf 6 _ rfl
    have hy7 : ys.length = 7 := hyl
    have wT := hy.field Try.underlying44 (i := 3) rfl (List.getElem?_eq_getElem (by omega))
    have wL := hy.field Try.underlying44 (i := 4) rfl (List.getElem?_eq_getElem (by omega))
    rw [List.getElem?_eq_getElem (by omega)] at f0 f1 f2 f3 f4 f5 f6
    have ci : Try.prog.cellsOf 3 = 1 := by kernel_rfl
    have cs1 : Try.prog.cellsOf 9 = 1 := by kernel_rfl
    have cl : Try.prog.cellsOf 37 = 1 := by kernel_rfl
    obtain ⟨k0, e0, -, -⟩ := DataW.trod_int Try.underlying3 f0
    obtain ⟨s1, e1, -, h1⟩ := DataW.trod_string Try.underlying9 f1
    obtain ⟨s2, e2, -, h2⟩ := DataW.trod_string Try.underlying9 f2
    obtain ⟨s3, e3, ey3, h3⟩ := DataW.trod_string Try.underlying9 f3
    rw [ey3] at wT
    have hts : s3.size ≤ reachBytes := Light.str wT
    obtain ⟨A, m, c, l, e4, hmc, hcm, hr, hpz, hwt⟩ := open_kindS lineK LineLight Try.underlying37 (by kernel_rfl) (by decide) line_elT f4 wL
    have bl : Try.prog.bytesOf 61 = 64 := by kernel_rfl
    obtain ⟨k5, e5, -, -⟩ := DataW.trod_int Try.underlying3 f5
    obtain ⟨k6, e6, -, -⟩ := DataW.trod_int Try.underlying3 f6
    have g0 : List.take (Try.prog.cellsOf 3) [a0, a1, a2, a3, a4, a5, a6] = [.int .i64 k0] := e0
    have g1 : List.take (Try.prog.cellsOf 9) [a1, a2, a3, a4, a5, a6] = [.string s1] := e1
    have g2 : List.take (Try.prog.cellsOf 9) [a2, a3, a4, a5, a6] = [.string s2] := e2
    have g3 : List.take (Try.prog.cellsOf 9) [a3, a4, a5, a6] = [.string s3] := e3
    have g4 : List.take (Try.prog.cellsOf 37) [a4, a5, a6] = [.slice A m c] := e4
    have g5 : List.take (Try.prog.cellsOf 3) [a5, a6] = [.int .i64 k5] := e5
    have g6 : List.take (Try.prog.cellsOf 3) [a6] = [.int .i64 k6] := e6
    rw [ci] at g0 g5 g6
    rw [cs1] at g1 g2 g3
    rw [cl] at g4
    have z0 : a0 = .int .i64 k0 := by simpa using g0
    have z1 : a1 = .string s1 := by simpa using g1
    have z2 : a2 = .string s2 := by simpa using g2
    have z3 : a3 = .string s3 := by simpa using g3
    have z4 : a4 = .slice A m c := by simpa using g4
    have z5 : a5 = .int .i64 k5 := by simpa using g5
    have z6 : a6 = .int .i64 k6 := by simpa using g6
    have hm : maxLen = 9223372036854775807 := rfl
    have hln : l.length = m := hr.1
    subst hln
    exact ⟨⟨k0, s1, s2, s3, l, k5, k6⟩, ⟨A, c, by rw [z0, z1, z2, z3, z4, z5, z6]; rfl, by show s1.size ≤ 9223372036854775807; omega, by show s2.size ≤ 9223372036854775807; omega, by show s3.size ≤ 9223372036854775807; omega, hmc, by omega, hr⟩, ⟨by rw [reach_eq] at hts; show s3.size ≤ _; omega, by rw [bl, reach_eq] at hwt; show l.length ≤ _; omega, fun z hz => ⟨(hpz z hz).1, (hpz z hz).2.1⟩⟩, fun z hz => (hpz z hz).2.2⟩
end
end Go.Proofs.Ytbchokjhbjnfcaa
