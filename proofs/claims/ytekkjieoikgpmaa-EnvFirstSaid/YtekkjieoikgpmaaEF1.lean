import Derived.Test.YtekkjieoikgpmaaE28
import Derived.Deep.Slices
import Derived.Deep.Fields
import Derived.SizedLaws
import Derived.ChangeMaps5
import Derived.Test.YtekkjieoikgpmaaE47
import Derived.Test.YtekkjieoikgpmaaEF0
section
/- Arguments opened: boxes, stops, environments, deeds of chapter 16. -/
set_option linter.unusedVariables false
namespace Go.Proofs.Ytekkjieoikgpmaa
open Go.ChangeShapes Go.WideShapes Go.ChangeAt Go.RowKit
set_option maxRecDepth 1000000
set_option maxHeartbeats 3200000

theorem one_cell {cs : List Value} {o : Nat} {v : Value} (h : (cs.drop o).take 1 = [v]) : cs[o]? = some v := by
  have h1 := congrArg (fun l : List Value => l[0]?) h
  simpa using h1
theorem u8_of {n : Int} (h : (Lit.int .u8 n).wf = true) : ∃ b : UInt8, n = (b.toNat : Int) := by
  have h1 : (decide (IntKind.min .u8 ≤ n) && decide (n ≤ IntKind.max .u8)) = true := h
  have e1 : IntKind.min .u8 = 0 := by decide
  have e2 : IntKind.max .u8 = 255 := by decide
  rw [e1, e2] at h1
  have h2 : 0 ≤ n ∧ n ≤ 255 := by simpa using h1
  refine ⟨UInt8.ofNat n.toNat, ?_⟩
  rw [UInt8.toNat_ofNat']
  omega
section
variable {H : Type} {enc : TypeId × Value → H} {w : World} {spare : Nat → Bool} {held : Bool}
theorem box_el (n : Nat) (cs : List Value) (y : DataW H × List MemPlace) (hl : cs.length = boxK.sz) (h : DataW.trod enc Try.prog w 0 spare held n 86 cs = some y) : ∃ z : BoxT, boxK.K w (fun _ => True) z cs := by
  obtain ⟨ys, n', -, -, -, hyl, hf⟩ := DataW.trod_struct Try.underlying86 h
  have h7 : cs.length = 7 := hl
  match cs, h7 with
  | [a0, a1, a2, a3, a4, a5, a6], _ =>
    have f0 := hf 0 _ rfl
    have f1 := hf 1 _ rfl
    have f2 := hf 2 _ rfl
    have f3 := hf 3 _ rfl
    have f4 := hf 4 _ rfl
    have f5 := hf 5 _ rfl
    have f6 := hf 6 _ rfl
    have hy : ys.length = 7 := hyl
    rw [List.getElem?_eq_getElem (by omega)] at f0 f1 f2 f3 f4 f5 f6
    have ci : Try.prog.cellsOf 3 = 1 := by kernel_rfl
    have cs1 : Try.prog.cellsOf 9 = 1 := by kernel_rfl
    have cl : Try.prog.cellsOf 54 = 1 := by kernel_rfl
    obtain ⟨k0, e0, -, -⟩ := DataW.trod_int Try.underlying3 f0
    obtain ⟨k1, e1, -, -⟩ := DataW.trod_int Try.underlying3 f1
    obtain ⟨k2, e2, -, -⟩ := DataW.trod_int Try.underlying3 f2
    obtain ⟨k3, e3, -, -⟩ := DataW.trod_int Try.underlying3 f3
    obtain ⟨s4, e4, -, -⟩ := DataW.trod_string Try.underlying9 f4
    obtain ⟨s5, e5, -, -⟩ := DataW.trod_string Try.underlying9 f5
    obtain ⟨A, m, c, l, e6, hmc, hcm, hr⟩ := open_kind_cells Kind.int Try.underlying54 (by kernel_rfl) (by decide) int_el f6
    have g0 : List.take (Try.prog.cellsOf 3) [a0, a1, a2, a3, a4, a5, a6] = [.int .i64 k0] := e0
    have g1 : List.take (Try.prog.cellsOf 3) [a1, a2, a3, a4, a5, a6] = [.int .i64 k1] := e1
    have g2 : List.take (Try.prog.cellsOf 3) [a2, a3, a4, a5, a6] = [.int .i64 k2] := e2
    have g3 : List.take (Try.prog.cellsOf 3) [a3, a4, a5, a6] = [.int .i64 k3] := e3
    have g4 : List.take (Try.prog.cellsOf 9) [a4, a5, a6] = [.string s4] := e4
    have g5 : List.take (Try.prog.cellsOf 9) [a5, a6] = [.string s5] := e5
    have g6 : List.take (Try.prog.cellsOf 54) [a6] = [.slice A m c] := e6
    rw [ci] at g0 g1 g2 g3
    rw [cs1] at g4 g5
    rw [cl] at g6
    have z0 : a0 = .int .i64 k0 := by simpa using g0
    have z1 : a1 = .int .i64 k1 := by simpa using g1
    have z2 : a2 = .int .i64 k2 := by simpa using g2
    have z3 : a3 = .int .i64 k3 := by simpa using g3
    have z4 : a4 = .string s4 := by simpa using g4
    have z5 : a5 = .string s5 := by simpa using g5
    have z6 : a6 = .slice A m c := by simpa using g6
    have hm : maxLen = 9223372036854775807 := rfl
    have hln : l.length = m := hr.1
    subst hln
    exact ⟨⟨k0, k1, k2, k3, s4, s5, l⟩, A, c, by rw [z0, z1, z2, z3, z4, z5, z6]; rfl, hmc, by omega, hr⟩
theorem stop_el (n : Nat) (cs : List Value) (y : DataW H × List MemPlace) (hl : cs.length = stopK.sz) (h : DataW.trod enc Try.prog w 0 spare held n 100 cs = some y) : ∃ z : StopT, stopK.K w (fun _ => True) z cs := by
  obtain ⟨ys, n', -, -, -, hyl, hf⟩ := DataW.trod_struct Try.underlying100 h
  have h2 : cs.length = 2 := hl
  have hy : ys.length = 2 := hyl
  have ci : Try.prog.cellsOf 3 = 1 := by kernel_rfl
  have cu : Try.prog.cellsOf 5 = 1 := by kernel_rfl
  have f0 : DataW.trod enc Try.prog w 0 spare held n' 3 ((cs.drop 0).take (Try.prog.cellsOf 3)) = ys[0]? := hf 0 _ rfl
  have f1 : DataW.trod enc Try.prog w 0 spare held n' 5 ((cs.drop 1).take (Try.prog.cellsOf 5)) = ys[1]? := hf 1 _ rfl
  rw [List.getElem?_eq_getElem (by omega)] at f0 f1
  rw [ci] at f0
  rw [cu] at f1
  obtain ⟨k0, e0, -, -⟩ := DataW.trod_int Try.underlying3 f0
  obtain ⟨k1, e1, -, w1⟩ := DataW.trod_int Try.underlying5 f1
  obtain ⟨b, rfl⟩ := u8_of w1
  have c0 := one_cell e0
  have c1 := one_cell e1
  refine ⟨⟨k0, b⟩, ?_⟩
  show cs = [.int .i64 k0, .int .u8 (b.toNat : Int)]
  match cs, h2, c0, c1 with
  | [a0, a1], _, c0, c1 =>
    have e0 : a0 = .int .i64 k0 := Option.some.inj c0
    have e1 : a1 = .int .u8 (b.toNat : Int) := Option.some.inj c1
    rw [e0, e1]
theorem nest {cs : List Value} {o n j : Nat} {v : Value} (h : ((cs.drop o).take n)[j]? = some v) (hj : j < n) : cs[o + j]? = some v := by
  rw [List.getElem?_take, if_pos hj, List.getElem?_drop] at h
  exact h
theorem env_el (n : Nat) (cs : List Value) (y : DataW H × List MemPlace) (hl : cs.length = 40) (h : DataW.trod enc Try.prog w 0 spare held n 29 cs = some y) : ∃ z : EnvT, envK.K w (fun _ => True) z cs := by
  obtain ⟨ys, n', -, -, -, hyl, hf⟩ := DataW.trod_struct Try.underlying29 h
  have hy : ys.length = 34 := hyl
  have ci : Try.prog.cellsOf 3 = 1 := by kernel_rfl
  have cb : Try.prog.cellsOf 4 = 1 := by kernel_rfl
  have cu : Try.prog.cellsOf 5 = 1 := by kernel_rfl
  have cs1 : Try.prog.cellsOf 9 = 1 := by kernel_rfl
  have cl : Try.prog.cellsOf 27 = 1 := by kernel_rfl
  have cl2 : Try.prog.cellsOf 22 = 1 := by kernel_rfl
  have c2 : Try.prog.cellsOf 24 = 2 := by kernel_rfl
  have c6 : Try.prog.cellsOf 26 = 6 := by kernel_rfl
  have hm : maxLen = 9223372036854775807 := rfl
  have f0 : DataW.trod enc Try.prog w 0 spare held n' 3 ((cs.drop 0).take (Try.prog.cellsOf 3)) = ys[0]? := hf 0 _ rfl
  rw [List.getElem?_eq_getElem (by omega), ci] at f0
  obtain ⟨x0, e0, -, -⟩ := DataW.trod_int Try.underlying3 f0
  have g0 := one_cell e0
  have f1 : DataW.trod enc Try.prog w 0 spare held n' 3 ((cs.drop 1).take (Try.prog.cellsOf 3)) = ys[1]? := hf 1 _ rfl
  rw [List.getElem?_eq_getElem (by omega), ci] at f1
  obtain ⟨x1, e1, -, -⟩ := DataW.trod_int Try.underlying3 f1
  have g1 := one_cell e1
  have f2 : DataW.trod enc Try.prog w 0 spare held n' 3 ((cs.drop 2).take (Try.prog.cellsOf 3)) = ys[2]? := hf 2 _ rfl
  rw [List.getElem?_eq_getElem (by omega), ci] at f2
  obtain ⟨x2, e2, -, -⟩ := DataW.trod_int Try.underlying3 f2
  have g2 := one_cell e2
  have f3 : DataW.trod enc Try.prog w 0 spare held n' 3 ((cs.drop 3).take (Try.prog.cellsOf 3)) = ys[3]? := hf 3 _ rfl
  rw [List.getElem?_eq_getElem (by omega), ci] at f3
  obtain ⟨x3, e3, -, -⟩ := DataW.trod_int Try.underlying3 f3
  have g3 := one_cell e3
  have f4 : DataW.trod enc Try.prog w 0 spare held n' 3 ((cs.drop 4).take (Try.prog.cellsOf 3)) = ys[4]? := hf 4 _ rfl
  rw [List.getElem?_eq_getElem (by omega), ci] at f4
  obtain ⟨x4, e4, -, -⟩ := DataW.trod_int Try.underlying3 f4
  have g4 := one_cell e4
  have f5 : DataW.trod enc Try.prog w 0 spare held n' 3 ((cs.drop 5).take (Try.prog.cellsOf 3)) = ys[5]? := hf 5 _ rfl
  rw [List.getElem?_eq_getElem (by omega), ci] at f5
  obtain ⟨x5, e5, -, -⟩ := DataW.trod_int Try.underlying3 f5
  have g5 := one_cell e5
  have f6 : DataW.trod enc Try.prog w 0 spare held n' 3 ((cs.drop 6).take (Try.prog.cellsOf 3)) = ys[6]? := hf 6 _ rfl
  rw [List.getElem?_eq_getElem (by omega), ci] at f6
  obtain ⟨x6, e6, -, -⟩ := DataW.trod_int Try.underlying3 f6
  have g6 := one_cell e6
  have f7 : DataW.trod enc Try.prog w 0 spare held n' 3 ((cs.drop 7).take (Try.prog.cellsOf 3)) = ys[7]? := hf 7 _ rfl
  rw [List.getElem?_eq_getElem (by omega), ci] at f7
  obtain ⟨x7, e7, -, -⟩ := DataW.trod_int Try.underlying3 f7
  have g7 := one_cell e7
  have f8 : DataW.trod enc Try.prog w 0 spare held n' 3 ((cs.drop 8).take (Try.prog.cellsOf 3)) = ys[8]? := hf 8 _ rfl
  rw [List.getElem?_eq_getElem (by omega), ci] at f8
  obtain ⟨x8, e8, -, -⟩ := DataW.trod_int Try.underlying3 f8
  have g8 := one_cell e8
  have f9 : DataW.trod enc Try.prog w 0 spare held n' 3 ((cs.drop 9).take (Try.prog.cellsOf 3)) = ys[9]? := hf 9 _ rfl
  rw [List.getElem?_eq_getElem (by omega), ci] at f9
  obtain ⟨x9, e9, -, -⟩ := DataW.trod_int Try.underlying3 f9
  have g9 := one_cell e9
  have f10 : DataW.trod enc Try.prog w 0 spare held n' 4 ((cs.drop 10).take (Try.prog.cellsOf 4)) = ys[10]? := hf 10 _ rfl
  rw [List.getElem?_eq_getElem (by omega), cb] at f10
  obtain ⟨x10, e10, -⟩ := DataW.trod_bool Try.underlying4 f10
  have g10 := one_cell e10
  have f11 : DataW.trod enc Try.prog w 0 spare held n' 4 ((cs.drop 11).take (Try.prog.cellsOf 4)) = ys[11]? := hf 11 _ rfl
  rw [List.getElem?_eq_getElem (by omega), cb] at f11
  obtain ⟨x11, e11, -⟩ := DataW.trod_bool Try.underlying4 f11
  have g11 := one_cell e11
  have f12 : DataW.trod enc Try.prog w 0 spare held n' 4 ((cs.drop 12).take (Try.prog.cellsOf 4)) = ys[12]? := hf 12 _ rfl
  rw [List.getElem?_eq_getElem (by omega), cb] at f12
  obtain ⟨x12, e12, -⟩ := DataW.trod_bool Try.underlying4 f12
  have g12 := one_cell e12
  have f13 : DataW.trod enc Try.prog w 0 spare held n' 4 ((cs.drop 13).take (Try.prog.cellsOf 4)) = ys[13]? := hf 13 _ rfl
  rw [List.getElem?_eq_getElem (by omega), cb] at f13
  obtain ⟨x13, e13, -⟩ := DataW.trod_bool Try.underlying4 f13
  have g13 := one_cell e13
  have f14 : DataW.trod enc Try.prog w 0 spare held n' 4 ((cs.drop 14).take (Try.prog.cellsOf 4)) = ys[14]? := hf 14 _ rfl
  rw [List.getElem?_eq_getElem (by omega), cb] at f14
  obtain ⟨x14, e14, -⟩ := DataW.trod_bool Try.underlying4 f14
  have g14 := one_cell e14
  have f15 : DataW.trod enc Try.prog w 0 spare held n' 5 ((cs.drop 15).take (Try.prog.cellsOf 5)) = ys[15]? := hf 15 _ rfl
  rw [List.getElem?_eq_getElem (by omega), cu] at f15
  obtain ⟨y15, e15, -, w15⟩ := DataW.trod_int Try.underlying5 f15
  obtain ⟨x15, rfl⟩ := u8_of w15
  have g15 := one_cell e15
  have f16 : DataW.trod enc Try.prog w 0 spare held n' 3 ((cs.drop 16).take (Try.prog.cellsOf 3)) = ys[16]? := hf 16 _ rfl
  rw [List.getElem?_eq_getElem (by omega), ci] at f16
  obtain ⟨x16, e16, -, -⟩ := DataW.trod_int Try.underlying3 f16
  have g16 := one_cell e16
  have f17 : DataW.trod enc Try.prog w 0 spare held n' 3 ((cs.drop 17).take (Try.prog.cellsOf 3)) = ys[17]? := hf 17 _ rfl
  rw [List.getElem?_eq_getElem (by omega), ci] at f17
  obtain ⟨x17, e17, -, -⟩ := DataW.trod_int Try.underlying3 f17
  have g17 := one_cell e17
  have f18 : DataW.trod enc Try.prog w 0 spare held n' 3 ((cs.drop 18).take (Try.prog.cellsOf 3)) = ys[18]? := hf 18 _ rfl
  rw [List.getElem?_eq_getElem (by omega), ci] at f18
  obtain ⟨x18, e18, -, -⟩ := DataW.trod_int Try.underlying3 f18
  have g18 := one_cell e18
  have f19 : DataW.trod enc Try.prog w 0 spare held n' 3 ((cs.drop 19).take (Try.prog.cellsOf 3)) = ys[19]? := hf 19 _ rfl
  rw [List.getElem?_eq_getElem (by omega), ci] at f19
  obtain ⟨x19, e19, -, -⟩ := DataW.trod_int Try.underlying3 f19
  have g19 := one_cell e19
  have f20 : DataW.trod enc Try.prog w 0 spare held n' 3 ((cs.drop 20).take (Try.prog.cellsOf 3)) = ys[20]? := hf 20 _ rfl
  rw [List.getElem?_eq_getElem (by omega), ci] at f20
  obtain ⟨x20, e20, -, -⟩ := DataW.trod_int Try.underlying3 f20
  have g20 := one_cell e20
  have f21 : DataW.trod enc Try.prog w 0 spare held n' 24 ((cs.drop 21).take (Try.prog.cellsOf 24)) = ys[21]? := hf 21 _ rfl
  rw [List.getElem?_eq_getElem (by omega), c2] at f21
  obtain ⟨zs, m', -, -, -, hzl, hg⟩ := DataW.trod_struct Try.underlying24 f21
  have hz : zs.length = 2 := hzl
  have s0 : DataW.trod enc Try.prog w 0 spare held m' 22 ((((cs.drop 21).take 2).drop 0).take (Try.prog.cellsOf 22)) = zs[0]? := hg 0 _ rfl
  have s1 : DataW.trod enc Try.prog w 0 spare held m' 3 ((((cs.drop 21).take 2).drop 1).take (Try.prog.cellsOf 3)) = zs[1]? := hg 1 _ rfl
  rw [List.getElem?_eq_getElem (by omega), cl2] at s0
  rw [List.getElem?_eq_getElem (by omega), ci] at s1
  obtain ⟨A1, m1, d1, xst, es0, hmc1, hcm1, hr1⟩ := open_kind_cells stopK Try.underlying22 (by kernel_rfl) (by decide) stop_el s0
  obtain ⟨xev, es1, -, -⟩ := DataW.trod_int Try.underlying3 s1
  have g21 := nest (one_cell es0) (by decide)
  have g22 := nest (one_cell es1) (by decide)
  have hln1 : xst.length = m1 := hr1.1
  subst hln1
  have f22 : DataW.trod enc Try.prog w 0 spare held n' 9 ((cs.drop 23).take (Try.prog.cellsOf 9)) = ys[22]? := hf 22 _ rfl
  rw [List.getElem?_eq_getElem (by omega), cs1] at f22
  obtain ⟨x22, e22, -, -⟩ := DataW.trod_string Try.underlying9 f22
  have g23 := one_cell e22
  have f23 : DataW.trod enc Try.prog w 0 spare held n' 9 ((cs.drop 24).take (Try.prog.cellsOf 9)) = ys[23]? := hf 23 _ rfl
  rw [List.getElem?_eq_getElem (by omega), cs1] at f23
  obtain ⟨x23, e23, -, -⟩ := DataW.trod_string Try.underlying9 f23
  have g24 := one_cell e23
  have f24 : DataW.trod enc Try.prog w 0 spare held n' 9 ((cs.drop 25).take (Try.prog.cellsOf 9)) = ys[24]? := hf 24 _ rfl
  rw [List.getElem?_eq_getElem (by omega), cs1] at f24
  obtain ⟨x24, e24, -, -⟩ := DataW.trod_string Try.underlying9 f24
  have g25 := one_cell e24
  have f25 : DataW.trod enc Try.prog w 0 spare held n' 9 ((cs.drop 26).take (Try.prog.cellsOf 9)) = ys[25]? := hf 25 _ rfl
  rw [List.getElem?_eq_getElem (by omega), cs1] at f25
  obtain ⟨x25, e25, -, -⟩ := DataW.trod_string Try.underlying9 f25
  have g26 := one_cell e25
  have f26 : DataW.trod enc Try.prog w 0 spare held n' 9 ((cs.drop 27).take (Try.prog.cellsOf 9)) = ys[26]? := hf 26 _ rfl
  rw [List.getElem?_eq_getElem (by omega), cs1] at f26
  obtain ⟨x26, e26, -, -⟩ := DataW.trod_string Try.underlying9 f26
  have g27 := one_cell e26
  have f27 : DataW.trod enc Try.prog w 0 spare held n' 3 ((cs.drop 28).take (Try.prog.cellsOf 3)) = ys[27]? := hf 27 _ rfl
  rw [List.getElem?_eq_getElem (by omega), ci] at f27
  obtain ⟨x27, e27, -, -⟩ := DataW.trod_int Try.underlying3 f27
  have g28 := one_cell e27
  have f28 : DataW.trod enc Try.prog w 0 spare held n' 26 ((cs.drop 29).take (Try.prog.cellsOf 26)) = ys[28]? := hf 28 _ rfl
  rw [List.getElem?_eq_getElem (by omega), c6] at f28
  obtain ⟨us, k', -, -, -, hul, hh⟩ := DataW.trod_struct Try.underlying26 f28
  have hu : us.length = 6 := hul
  have t0 : DataW.trod enc Try.prog w 0 spare held k' 4 ((((cs.drop 29).take 6).drop 0).take (Try.prog.cellsOf 4)) = us[0]? := hh 0 _ rfl
  rw [List.getElem?_eq_getElem (by omega), cb] at t0
  obtain ⟨xn0, en0, -⟩ := DataW.trod_bool Try.underlying4 t0
  have g29 := nest (one_cell en0) (by decide)
  have t1 : DataW.trod enc Try.prog w 0 spare held k' 3 ((((cs.drop 29).take 6).drop 1).take (Try.prog.cellsOf 3)) = us[1]? := hh 1 _ rfl
  rw [List.getElem?_eq_getElem (by omega), ci] at t1
  obtain ⟨xn1, en1, -, -⟩ := DataW.trod_int Try.underlying3 t1
  have g30 := nest (one_cell en1) (by decide)
  have t2 : DataW.trod enc Try.prog w 0 spare held k' 3 ((((cs.drop 29).take 6).drop 2).take (Try.prog.cellsOf 3)) = us[2]? := hh 2 _ rfl
  rw [List.getElem?_eq_getElem (by omega), ci] at t2
  obtain ⟨xn2, en2, -, -⟩ := DataW.trod_int Try.underlying3 t2
  have g31 := nest (one_cell en2) (by decide)
  have t3 : DataW.trod enc Try.prog w 0 spare held k' 3 ((((cs.drop 29).take 6).drop 3).take (Try.prog.cellsOf 3)) = us[3]? := hh 3 _ rfl
  rw [List.getElem?_eq_getElem (by omega), ci] at t3
  obtain ⟨xn3, en3, -, -⟩ := DataW.trod_int Try.underlying3 t3
  have g32 := nest (one_cell en3) (by decide)
  have t4 : DataW.trod enc Try.prog w 0 spare held k' 3 ((((cs.drop 29).take 6).drop 4).take (Try.prog.cellsOf 3)) = us[4]? := hh 4 _ rfl
  rw [List.getElem?_eq_getElem (by omega), ci] at t4
  obtain ⟨xn4, en4, -, -⟩ := DataW.trod_int Try.underlying3 t4
  have g33 := nest (one_cell en4) (by decide)
  have t5 : DataW.trod enc Try.prog w 0 spare held k' 3 ((((cs.drop 29).take 6).drop 5).take (Try.prog.cellsOf 3)) = us[5]? := hh 5 _ rfl
  rw [List.getElem?_eq_getElem (by omega), ci] at t5
  obtain ⟨xn5, en5, -, -⟩ := DataW.trod_int Try.underlying3 t5
  have g34 := nest (one_cell en5) (by decide)
  have f29 : DataW.trod enc Try.prog w 0 spare held n' 27 ((cs.drop 35).take (Try.prog.cellsOf 27)) = ys[29]? := hf 29 _ rfl
  rw [List.getElem?_eq_getElem (by omega), cl] at f29
  obtain ⟨A2, m2, d2, x29, e29, hmc2, hcm2, hr2⟩ := open_kind_cells boxK Try.underlying27 (by kernel_rfl) (by decide) box_el f29
  have g35 := one_cell e29
  have hln2 : x29.length = m2 := hr2.1
  subst hln2
  have f30 : DataW.trod enc Try.prog w 0 spare held n' 3 ((cs.drop 36).take (Try.prog.cellsOf 3)) = ys[30]? := hf 30 _ rfl
  rw [List.getElem?_eq_getElem (by omega), ci] at f30
  obtain ⟨x30, e30, -, -⟩ := DataW.trod_int Try.underlying3 f30
  have g36 := one_cell e30
  have f31 : DataW.trod enc Try.prog w 0 spare held n' 3 ((cs.drop 37).take (Try.prog.cellsOf 3)) = ys[31]? := hf 31 _ rfl
  rw [List.getElem?_eq_getElem (by omega), ci] at f31
  obtain ⟨x31, e31, -, -⟩ := DataW.trod_int Try.underlying3 f31
  have g37 := one_cell e31
  have f32 : DataW.trod enc Try.prog w 0 spare held n' 4 ((cs.drop 38).take (Try.prog.cellsOf 4)) = ys[32]? := hf 32 _ rfl
  rw [List.getElem?_eq_getElem (by omega), cb] at f32
  obtain ⟨x32, e32, -⟩ := DataW.trod_bool Try.underlying4 f32
  have g38 := one_cell e32
  have f33 : DataW.trod enc Try.prog w 0 spare held n' 4 ((cs.drop 39).take (Try.prog.cellsOf 4)) = ys[33]? := hf 33 _ rfl
  rw [List.getElem?_eq_getElem (by omega), cb] at f33
  obtain ⟨x33, e33, -⟩ := DataW.trod_bool Try.underlying4 f33
  have g39 := one_cell e33
  refine ⟨⟨x0, x1, x2, x3, x4, x5, x6, x7, x8, x9, x10, x11, x12, x13, x14, x15, x16, x17, x18, x19, x20, xst, xev, x22, x23, x24, x25, x26, x27, xn0, xn1, xn2, xn3, xn4, xn5, x29, x30, x31, x32, x33⟩, .slice A1 xst.length d1, .slice A2 x29.length d2, ?_, ⟨A1, d1, rfl, hmc1, by omega, hr1⟩, ⟨A2, d2, rfl, hmc2, by omega, hr2⟩⟩
  refine List.ext_getElem? fun i => ?_
  match i with
  | 0 => exact g0
  | 1 => exact g1
  | 2 => exact g2
  | 3 => exact g3
  | 4 => exact g4
  | 5 => exact g5
  | 6 => exact g6
  | 7 => exact g7
  | 8 => exact g8
  | 9 => exact g9
  | 10 => exact g10
  | 11 => exact g11
  | 12 => exact g12
  | 13 => exact g13
  | 14 => exact g14
  | 15 => exact g15
  | 16 => exact g16
  | 17 => exact g17
  | 18 => exact g18
  | 19 => exact g19
  | 20 => exact g20
  | 21 => exact g21
  | 22 => exact g22
  | 23 => exact g23
  | 24 => exact g24
  | 25 => exact g25
  | 26 => exact g26
  | 27 => exact g27
  | 28 => exact g28
  | 29 => exact g29
  | 30 => exact g30
  | 31 => exact g31
  | 32 => exact g32
  | 33 => exact g33
  | 34 => exact g34
  | 35 => exact g35
  | 36 => exact g36
  | 37 => exact g37
  | 38 => exact g38
  | 39 => exact g39
  | i + 40 =>
    rw [List.getElem?_eq_none (by omega)]
    rfl
theorem deed_el (n : Nat) (cs : List Value) (y : DataW H × List MemPlace) (hl : cs.length = deedK.sz) (h : DataW.trod enc Try.prog w 0 spare held n 32 cs = some y) : ∃ z : DeedE, deedK.K w (fun _ => True) z cs := by
  obtain ⟨ys, n', -, -, -, hyl, hf⟩ := DataW.trod_struct Try.underlying32 h
  have h43 : cs.length = 43 := hl
  have hy : ys.length = 4 := hyl
  have ci : Try.prog.cellsOf 3 = 1 := by kernel_rfl
  have cs1 : Try.prog.cellsOf 9 = 1 := by kernel_rfl
  have ce : Try.prog.cellsOf 29 = 40 := by kernel_rfl
  have hm : maxLen = 9223372036854775807 := rfl
  have f0 : DataW.trod enc Try.prog w 0 spare held n' 3 ((cs.drop 0).take (Try.prog.cellsOf 3)) = ys[0]? := hf 0 _ rfl
  have f1 : DataW.trod enc Try.prog w 0 spare held n' 3 ((cs.drop 1).take (Try.prog.cellsOf 3)) = ys[1]? := hf 1 _ rfl
  have f2 : DataW.trod enc Try.prog w 0 spare held n' 9 ((cs.drop 2).take (Try.prog.cellsOf 9)) = ys[2]? := hf 2 _ rfl
  have f3 : DataW.trod enc Try.prog w 0 spare held n' 29 ((cs.drop 3).take (Try.prog.cellsOf 29)) = ys[3]? := hf 3 _ rfl
  rw [List.getElem?_eq_getElem (by omega)] at f0 f1 f2 f3
  rw [ci] at f0 f1
  rw [cs1] at f2
  rw [ce] at f3
  obtain ⟨k0, e0, -, -⟩ := DataW.trod_int Try.underlying3 f0
  obtain ⟨k1, e1, -, -⟩ := DataW.trod_int Try.underlying3 f1
  obtain ⟨s2, e2, -, h2⟩ := DataW.trod_string Try.underlying9 f2
  obtain ⟨z, hz⟩ := env_el n' _ _ (by rw [List.length_take, List.length_drop]; omega) f3
  have g0 := one_cell e0
  have g1 := one_cell e1
  have g2 := one_cell e2
  refine ⟨⟨k0, k1, s2, z⟩, (cs.drop 3).take 40, ?_, by show s2.size ≤ 9223372036854775807; omega, hz⟩
  match cs, h43, g0, g1, g2 with
  | a0 :: a1 :: a2 :: r, h43, g0, g1, g2 =>
    have e0 : a0 = .int .i64 k0 := Option.some.inj g0
    have e1 : a1 = .int .i64 k1 := Option.some.inj g1
    have e2 : a2 = .string s2 := Option.some.inj g2
    show a0 :: a1 :: a2 :: r = .int .i64 k0 :: .int .i64 k1 :: .string s2 :: r.take 40
    rw [e0, e1, e2, List.take_of_length_le (by simp at h43; omega)]
theorem open_deed {r : Reach} {b0 : Nat} {v : Value} {x : DataW H} {ps : List MemPlace} (hval : Value.okWide Try.prog w r b0 32 v) (h : DataW.Trod enc Try.prog w 0 spare held 32 v x ps) :
    ∃ (z : DeedE) (ec : List Value), v = .agg (z.cells ec).toArray ∧ deedK.K w (fun _ => True) z (z.cells ec) := by
  obtain ⟨cs, rfl, hsz⟩ := okWide_struct Try.underlying32 hval
  obtain ⟨fuel, hf⟩ := h
  have hc : Try.prog.cellsOf 32 = 43 := by kernel_rfl
  obtain ⟨z, hz⟩ := deed_el fuel cs.toList _ (by rw [Array.length_toList, hsz, hc]; rfl) hf
  obtain ⟨ec, e, -⟩ := id hz
  exact ⟨z, ec, by rw [← e, Array.toArray_toList], by rw [← e]; exact hz⟩
end
end Go.Proofs.Ytekkjieoikgpmaa
end
section
/- Arguments opened, with the form's own reach: what is general. -/
set_option linter.unusedVariables false
namespace Go.Proofs.Ytekkjieoikgpmaa
open Go.ChangeShapes Go.WideShapes Go.ChangeAt Go.RowKit Go.Deep
set_option maxRecDepth 1000000
set_option maxHeartbeats 1600000
theorem reach_eq : reachBytes = 140737488351232 := rfl
/-- What a reading weighs is within reach. -/
def Light {H : Type} (P : Program) (t : TypeId) (d : DataW H) : Prop := ∀ n ∈ d.weights P t, n ≤ reachBytes
section
variable {H : Type} {enc : TypeId × Value → H} {P : Program} {w : World} {spare : Nat → Bool} {held : Bool}
theorem weightsAll_mem {e : TypeId} : ∀ {l : List (DataW H)} {d : DataW H}, d ∈ l → ∀ n ∈ d.weights P e, n ∈ DataW.weightsAll P e l
  | d' :: r, d, hd, n, hn => by
    simp only [DataW.weightsAll, List.mem_append]
    rcases List.mem_cons.1 hd with rfl | h
    · exact Or.inl hn
    · exact Or.inr (weightsAll_mem h n hn)
theorem Light.field {t : TypeId} {fs : Array Field} {ys : List (DataW H × List MemPlace)} (ht : P.underlying t = some (.struct fs)) (h : Light P t (.agg (ys.map (·.1)))) {i : Nat} {f : Field} {y : DataW H × List MemPlace} (hf : fs[i]? = some f) (hy : ys[i]? = some y) : Light P f.type y.1 := fun n hn => by
  refine h n ?_
  simp only [DataW.weights, ht]
  exact DataW.weights_mem_each (j := i) (t := f.type) (d := y.1) (by rw [List.getElem?_map, Array.getElem?_toList, hf]; rfl) (by rw [List.getElem?_map, hy]; rfl) n hn
theorem open_kindS {α : Type} (d : Kind α) (Pz : α → Prop) {t e : TypeId} {cs0 : List Value} {x : DataW H × List MemPlace} {fuel : Nat} (ht : P.underlying t = some (.slice e)) (hsz : P.cellsOf e = d.sz) (hs0 : 0 < d.sz)
    (hel : ∀ (n : Nat) (cs : List Value) (y : DataW H × List MemPlace), cs.length = d.sz → DataW.trod enc P w 0 spare held n e cs = some y → Light P e y.1 → ∃ z : α, d.K w (fun _ => True) z cs ∧ Pz z)
    (hf : DataW.trod enc P w 0 spare held fuel t cs0 = some x) (hx : Light P t x.1) : ∃ A n c l, cs0 = [.slice A n c] ∧ n ≤ c ∧ c ≤ maxLen ∧ d.Rd w (fun _ => True) A n l ∧ (∀ z ∈ l, Pz z) ∧ n * P.bytesOf e ≤ reachBytes := by
  rcases open_slice ht hf with ⟨hc, -⟩ | ⟨a, len, cap, m, n, D, Pl, hc, hb, hl, hm, hmm, hxe, hi⟩
  · exact ⟨none, 0, 0, [], hc, Nat.le_refl _, Nat.zero_le _, Kind.Rd.nil _ _ _ _, (fun z hz => by cases hz), (by rw [Nat.zero_mul]; exact Nat.zero_le _)⟩
  · refine ⟨some a, len, cap, ?_⟩
    have hlm : len ≤ m := by rw [hmm]; split <;> omega
    have hw1 : ∀ i, i < len → Light P e (D i) := fun i hil n hn => by
      refine hx n ?_
      rw [hxe]
      simp only [DataW.weights, ht, List.mem_cons, List.mem_append]
      exact .inr (.inl (weightsAll_mem (List.mem_map.2 ⟨i, List.mem_range.2 hil, rfl⟩) n hn))
    have hw2 : len * P.bytesOf e ≤ reachBytes := by
      have := hx ((len + (m - len)) * P.bytesOf e) (by
        rw [hxe]
        simp [DataW.weights, ht])
      exact Nat.le_trans (Nat.mul_le_mul_right _ (Nat.le_add_right _ _)) this
    have hq : ∀ i, i < len → ∃ z : α, Pz z ∧ ∃ cs, d.K w (fun _ => True) z cs ∧ ∀ j u, cs[j]? = some u → w.cell? (a.add (i * d.sz + j)) = some u := by
      intro i hil
      obtain ⟨cs', h1, h2⟩ := hi i (by omega)
      rw [hsz] at h1
      obtain ⟨-, hlen, hat⟩ := World.cells?_some h1
      obtain ⟨z, hz, hPz⟩ := hel n cs' _ hlen h2 (hw1 i hil)
      refine ⟨z, hPz, cs', hz, fun j u hu => ?_⟩
      have hj : j < d.sz := by rw [← hlen]; exact (List.getElem?_eq_some_iff.1 hu).1
      rw [← add_add, hat j hj, hu]
    obtain ⟨l, hll, hlq⟩ := list_of len hq
    refine ⟨l, hc, hl, hm, ⟨hll, fun hp => ?_⟩, fun z hz => ?_, hw2⟩
    · obtain ⟨z, hz⟩ : ∃ z, l[0]? = some z := ⟨_, List.getElem?_eq_getElem (by omega)⟩
      obtain ⟨-, cs, hK, hcell⟩ := hlq 0 z hz
      obtain ⟨u, hu⟩ : ∃ u, cs[0]? = some u := ⟨_, List.getElem?_eq_getElem (by rw [d.len hK]; omega)⟩
      have h0 := hcell 0 u hu
      rw [Nat.zero_mul, Nat.add_zero] at h0
      have ha : a.add 0 = a := by unfold Addr.add; rw [if_pos rfl]
      rw [ha] at h0
      have hfl := addr_flat h0
      refine ⟨a.block, a.off, congrArg some hfl, trivial, ?_, fun i y hy => ?_⟩
      · rw [hfl] at h0; exact cell_lt h0
      · obtain ⟨-, cs, hK, hcell⟩ := hlq i y hy
        refine ⟨cs, hK, fun j u hu => ?_⟩
        have := hcell j u hu
        rw [hfl, Addr.add_lit] at this
        rw [← this, Nat.add_assoc]
    · obtain ⟨i, hi, rfl⟩ := List.mem_iff_getElem.1 hz
      exact (hlq i _ (List.getElem?_eq_getElem hi)).1
theorem Light.str {t : TypeId} {s : ByteArray} (h : Light (H := H) P t (.lit (.string s.data.toList))) : s.size ≤ reachBytes := h s.size (by simp [DataW.weights])
end
section
variable {H : Type} {enc : TypeId × Value → H} {w : World} {spare : Nat → Bool} {held : Bool}
theorem int_elS (n : Nat) (cs : List Value) (y : DataW H × List MemPlace) (hl : cs.length = Kind.int.sz) (h : DataW.trod enc Try.prog w 0 spare held n 3 cs = some y) (hy : Light Try.prog 3 y.1) : ∃ z : Int, Kind.int.K w (fun _ => True) z cs ∧ True := by
  obtain ⟨k, e0, -, -⟩ := DataW.trod_int Try.underlying3 h
  exact ⟨k, e0, trivial⟩
theorem str_elS (n : Nat) (cs : List Value) (y : DataW H × List MemPlace) (hl : cs.length = Kind.str.sz) (h : DataW.trod enc Try.prog w 0 spare held n 9 cs = some y) (hy : Light Try.prog 9 y.1) : ∃ z : ByteArray, Kind.str.K w (fun _ => True) z cs ∧ z.size ≤ reachBytes := by
  obtain ⟨s, e0, hye, -⟩ := DataW.trod_string Try.underlying9 h
  rw [hye] at hy
  exact ⟨s, e0, Light.str hy⟩
end
end Go.Proofs.Ytekkjieoikgpmaa
end
section
/- Environments and deeds opened with their sizes. -/
set_option linter.unusedVariables false
namespace Go.Proofs.Ytekkjieoikgpmaa
open Go.ChangeShapes Go.WideShapes Go.ChangeAt Go.RowKit Go.Deep
set_option maxRecDepth 1000000
set_option maxHeartbeats 3200000
section
variable {H : Type} {enc : TypeId × Value → H} {w : World} {spare : Nat → Bool} {held : Bool}
theorem stop_elS (n : Nat) (cs : List Value) (y : DataW H × List MemPlace) (hl : cs.length = stopK.sz) (h : DataW.trod enc Try.prog w 0 spare held n 100 cs = some y) (hy : Light Try.prog 100 y.1) : ∃ z : StopT, stopK.K w (fun _ => True) z cs ∧ True := by
  obtain ⟨z, hz⟩ := stop_el n cs y hl h
  exact ⟨z, hz, trivial⟩
theorem box_elS (n : Nat) (cs : List Value) (y : DataW H × List MemPlace) (hl : cs.length = boxK.sz) (h : DataW.trod enc Try.prog w 0 spare held n 86 cs = some y) (hy : Light Try.prog 86 y.1) : ∃ z : BoxT, boxK.K w (fun _ => True) z cs ∧ (z.f6.length ≤ 17592186044416 ∧ z.f4.size ≤ 9223372036854775807 ∧ z.f5.size ≤ 9223372036854775807) := by
  obtain ⟨ys, n', -, hye, -, hyl, hf⟩ := DataW.trod_struct Try.underlying86 h
  rw [hye] at hy
  have h7 : cs.length = 7 := hl
  match cs, h7 with
  | [a0, a1, a2, a3, a4, a5, a6], _ =>
    have f0 := hf 0 _ rfl
    have f1 := hf 1 _ rfl
    have f2 := hf 2 _ rfl
    have f3 := hf 3 _ rfl
    have f4 := hf 4 _ rfl
    have f5 := hf 5 _ rfl
    have f6 := hf 6 _ rfl
    have hy7 : ys.length = 7 := hyl
    have wS := hy.field Try.underlying86 (i := 6) rfl (List.getElem?_eq_getElem (by omega))
    rw [List.getElem?_eq_getElem (by omega)] at f0 f1 f2 f3 f4 f5 f6
    have ci : Try.prog.cellsOf 3 = 1 := by kernel_rfl
    have cs1 : Try.prog.cellsOf 9 = 1 := by kernel_rfl
    have cl : Try.prog.cellsOf 54 = 1 := by kernel_rfl
    obtain ⟨k0, e0, -, -⟩ := DataW.trod_int Try.underlying3 f0
    obtain ⟨k1, e1, -, -⟩ := DataW.trod_int Try.underlying3 f1
    obtain ⟨k2, e2, -, -⟩ := DataW.trod_int Try.underlying3 f2
    obtain ⟨k3, e3, -, -⟩ := DataW.trod_int Try.underlying3 f3
    obtain ⟨s4, e4, -, h4⟩ := DataW.trod_string Try.underlying9 f4
    obtain ⟨s5, e5, -, h5⟩ := DataW.trod_string Try.underlying9 f5
    have bi : Try.prog.bytesOf 3 = 8 := by kernel_rfl
    obtain ⟨A, m, c, l, e6, hmc, hcm, hr, -, hwt⟩ := open_kindS Kind.int (fun _ => True) Try.underlying54 (by kernel_rfl) (by decide) int_elS f6 wS
    rw [bi, reach_eq] at hwt
    have g0 : List.take (Try.prog.cellsOf 3) [a0, a1, a2, a3, a4, a5, a6] = [.int .i64 k0] := e0
    have g1 : List.take (Try.prog.cellsOf 3) [a1, a2, a3, a4, a5, a6] = [.int .i64 k1] := e1
    have g2 : List.take (Try.prog.cellsOf 3) [a2, a3, a4, a5, a6] = [.int .i64 k2] := e2
    have g3 : List.take (Try.prog.cellsOf 3) [a3, a4, a5, a6] = [.int .i64 k3] := e3
    have g4 : List.take (Try.prog.cellsOf 9) [a4, a5, a6] = [.string s4] := e4
    have g5 : List.take (Try.prog.cellsOf 9) [a5, a6] = [.string s5] := e5
    have g6 : List.take (Try.prog.cellsOf 54) [a6] = [.slice A m c] := e6
    rw [ci] at g0 g1 g2 g3
    rw [cs1] at g4 g5
    rw [cl] at g6
    have z0 : a0 = .int .i64 k0 := by simpa using g0
    have z1 : a1 = .int .i64 k1 := by simpa using g1
    have z2 : a2 = .int .i64 k2 := by simpa using g2
    have z3 : a3 = .int .i64 k3 := by simpa using g3
    have z4 : a4 = .string s4 := by simpa using g4
    have z5 : a5 = .string s5 := by simpa using g5
    have z6 : a6 = .slice A m c := by simpa using g6
    have hm : maxLen = 9223372036854775807 := rfl
    have hln : l.length = m := hr.1
    subst hln
    exact ⟨⟨k0, k1, k2, k3, s4, s5, l⟩, ⟨A, c, by rw [z0, z1, z2, z3, z4, z5, z6]; rfl, hmc, by omega, hr⟩, by show l.length ≤ _; omega, by show s4.size ≤ _; omega, by show s5.size ≤ _; omega⟩
theorem env_elS (n : Nat) (cs : List Value) (y : DataW H × List MemPlace) (hl : cs.length = 40) (h : DataW.trod enc Try.prog w 0 spare held n 29 cs = some y) (hy0 : Light Try.prog 29 y.1) : ∃ z : EnvT, envK.K w (fun _ => True) z cs ∧ z.light ∧ z.strs := by
  obtain ⟨ys, n', -, hye, -, hyl, hf⟩ := DataW.trod_struct Try.underlying29 h
  rw [hye] at hy0
  have hy : ys.length = 34 := hyl
  have wS := hy0.field Try.underlying29 (i := 21) rfl (List.getElem?_eq_getElem (by omega))
  have wR := hy0.field Try.underlying29 (i := 29) rfl (List.getElem?_eq_getElem (by omega))
  have ci : Try.prog.cellsOf 3 = 1 := by kernel_rfl
  have cb : Try.prog.cellsOf 4 = 1 := by kernel_rfl
  have cu : Try.prog.cellsOf 5 = 1 := by kernel_rfl
  have cs1 : Try.prog.cellsOf 9 = 1 := by kernel_rfl
  have cl : Try.prog.cellsOf 27 = 1 := by kernel_rfl
  have cl2 : Try.prog.cellsOf 22 = 1 := by kernel_rfl
  have c2 : Try.prog.cellsOf 24 = 2 := by kernel_rfl
  have c6 : Try.prog.cellsOf 26 = 6 := by kernel_rfl
  have hm : maxLen = 9223372036854775807 := rfl
  have f0 : DataW.trod enc Try.prog w 0 spare held n' 3 ((cs.drop 0).take (Try.prog.cellsOf 3)) = ys[0]? := hf 0 _ rfl
  rw [List.getElem?_eq_getElem (by omega), ci] at f0
  obtain ⟨x0, e0, -, -⟩ := DataW.trod_int Try.underlying3 f0
  have g0 := one_cell e0
  have f1 : DataW.trod enc Try.prog w 0 spare held n' 3 ((cs.drop 1).take (Try.prog.cellsOf 3)) = ys[1]? := hf 1 _ rfl
  rw [List.getElem?_eq_getElem (by omega), ci] at f1
  obtain ⟨x1, e1, -, -⟩ := DataW.trod_int Try.underlying3 f1
  have g1 := one_cell e1
  have f2 : DataW.trod enc Try.prog w 0 spare held n' 3 ((cs.drop 2).take (Try.prog.cellsOf 3)) = ys[2]? := hf 2 _ rfl
  rw [List.getElem?_eq_getElem (by omega), ci] at f2
  obtain ⟨x2, e2, -, -⟩ := DataW.trod_int Try.underlying3 f2
  have g2 := one_cell e2
  have f3 : DataW.trod enc Try.prog w 0 spare held n' 3 ((cs.drop 3).take (Try.prog.cellsOf 3)) = ys[3]? := hf 3 _ rfl
  rw [List.getElem?_eq_getElem (by omega), ci] at f3
  obtain ⟨x3, e3, -, -⟩ := DataW.trod_int Try.underlying3 f3
  have g3 := one_cell e3
  have f4 : DataW.trod enc Try.prog w 0 spare held n' 3 ((cs.drop 4).take (Try.prog.cellsOf 3)) = ys[4]? := hf 4 _ rfl
  rw [List.getElem?_eq_getElem (by omega), ci] at f4
  obtain ⟨x4, e4, -, -⟩ := DataW.trod_int Try.underlying3 f4
  have g4 := one_cell e4
  have f5 : DataW.trod enc Try.prog w 0 spare held n' 3 ((cs.drop 5).take (Try.prog.cellsOf 3)) = ys[5]? := hf 5 _ rfl
  rw [List.getElem?_eq_getElem (by omega), ci] at f5
  obtain ⟨x5, e5, -, -⟩ := DataW.trod_int Try.underlying3 f5
  have g5 := one_cell e5
  have f6 : DataW.trod enc Try.prog w 0 spare held n' 3 ((cs.drop 6).take (Try.prog.cellsOf 3)) = ys[6]? := hf 6 _ rfl
  rw [List.getElem?_eq_getElem (by omega), ci] at f6
  obtain ⟨x6, e6, -, -⟩ := DataW.trod_int Try.underlying3 f6
  have g6 := one_cell e6
  have f7 : DataW.trod enc Try.prog w 0 spare held n' 3 ((cs.drop 7).take (Try.prog.cellsOf 3)) = ys[7]? := hf 7 _ rfl
  rw [List.getElem?_eq_getElem (by omega), ci] at f7
  obtain ⟨x7, e7, -, -⟩ := DataW.trod_int Try.underlying3 f7
  have g7 := one_cell e7
  have f8 : DataW.trod enc Try.prog w 0 spare held n' 3 ((cs.drop 8).take (Try.prog.cellsOf 3)) = ys[8]? := hf 8 _ rfl
  rw [List.getElem?_eq_getElem (by omega), ci] at f8
  obtain ⟨x8, e8, -, -⟩ := DataW.trod_int Try.underlying3 f8
  have g8 := one_cell e8
  have f9 : DataW.trod enc Try.prog w 0 spare held n' 3 ((cs.drop 9).take (Try.prog.cellsOf 3)) = ys[9]? := hf 9 _ rfl
  rw [List.getElem?_eq_getElem (by omega), ci] at f9
  obtain ⟨x9, e9, -, -⟩ := DataW.trod_int Try.underlying3 f9
  have g9 := one_cell e9
  have f10 : DataW.trod enc Try.prog w 0 spare held n' 4 ((cs.drop 10).take (Try.prog.cellsOf 4)) = ys[10]? := hf 10 _ rfl
  rw [List.getElem?_eq_getElem (by omega), cb] at f10
  obtain ⟨x10, e10, -⟩ := DataW.trod_bool Try.underlying4 f10
  have g10 := one_cell e10
  have f11 : DataW.trod enc Try.prog w 0 spare held n' 4 ((cs.drop 11).take (Try.prog.cellsOf 4)) = ys[11]? := hf 11 _ rfl
  rw [List.getElem?_eq_getElem (by omega), cb] at f11
  obtain ⟨x11, e11, -⟩ := DataW.trod_bool Try.underlying4 f11
  have g11 := one_cell e11
  have f12 : DataW.trod enc Try.prog w 0 spare held n' 4 ((cs.drop 12).take (Try.prog.cellsOf 4)) = ys[12]? := hf 12 _ rfl
  rw [List.getElem?_eq_getElem (by omega), cb] at f12
  obtain ⟨x12, e12, -⟩ := DataW.trod_bool Try.underlying4 f12
  have g12 := one_cell e12
  have f13 : DataW.trod enc Try.prog w 0 spare held n' 4 ((cs.drop 13).take (Try.prog.cellsOf 4)) = ys[13]? := hf 13 _ rfl
  rw [List.getElem?_eq_getElem (by omega), cb] at f13
  obtain ⟨x13, e13, -⟩ := DataW.trod_bool Try.underlying4 f13
  have g13 := one_cell e13
  have f14 : DataW.trod enc Try.prog w 0 spare held n' 4 ((cs.drop 14).take (Try.prog.cellsOf 4)) = ys[14]? := hf 14 _ rfl
  rw [List.getElem?_eq_getElem (by omega), cb] at f14
  obtain ⟨x14, e14, -⟩ := DataW.trod_bool Try.underlying4 f14
  have g14 := one_cell e14
  have f15 : DataW.trod enc Try.prog w 0 spare held n' 5 ((cs.drop 15).take (Try.prog.cellsOf 5)) = ys[15]? := hf 15 _ rfl
  rw [List.getElem?_eq_getElem (by omega), cu] at f15
  obtain ⟨y15, e15, -, w15⟩ := DataW.trod_int Try.underlying5 f15
  obtain ⟨x15, rfl⟩ := u8_of w15
  have g15 := one_cell e15
  have f16 : DataW.trod enc Try.prog w 0 spare held n' 3 ((cs.drop 16).take (Try.prog.cellsOf 3)) = ys[16]? := hf 16 _ rfl
  rw [List.getElem?_eq_getElem (by omega), ci] at f16
  obtain ⟨x16, e16, -, -⟩ := DataW.trod_int Try.underlying3 f16
  have g16 := one_cell e16
  have f17 : DataW.trod enc Try.prog w 0 spare held n' 3 ((cs.drop 17).take (Try.prog.cellsOf 3)) = ys[17]? := hf 17 _ rfl
  rw [List.getElem?_eq_getElem (by omega), ci] at f17
  obtain ⟨x17, e17, -, -⟩ := DataW.trod_int Try.underlying3 f17
  have g17 := one_cell e17
  have f18 : DataW.trod enc Try.prog w 0 spare held n' 3 ((cs.drop 18).take (Try.prog.cellsOf 3)) = ys[18]? := hf 18 _ rfl
  rw [List.getElem?_eq_getElem (by omega), ci] at f18
  obtain ⟨x18, e18, -, -⟩ := DataW.trod_int Try.underlying3 f18
  have g18 := one_cell e18
  have f19 : DataW.trod enc Try.prog w 0 spare held n' 3 ((cs.drop 19).take (Try.prog.cellsOf 3)) = ys[19]? := hf 19 _ rfl
  rw [List.getElem?_eq_getElem (by omega), ci] at f19
  obtain ⟨x19, e19, -, -⟩ := DataW.trod_int Try.underlying3 f19
  have g19 := one_cell e19
  have f20 : DataW.trod enc Try.prog w 0 spare held n' 3 ((cs.drop 20).take (Try.prog.cellsOf 3)) = ys[20]? := hf 20 _ rfl
  rw [List.getElem?_eq_getElem (by omega), ci] at f20
  obtain ⟨x20, e20, -, -⟩ := DataW.trod_int Try.underlying3 f20
  have g20 := one_cell e20
  have f21 : DataW.trod enc Try.prog w 0 spare held n' 24 ((cs.drop 21).take (Try.prog.cellsOf 24)) = ys[21]? := hf 21 _ rfl
  rw [List.getElem?_eq_getElem (by omega), c2] at f21
  obtain ⟨zs, m', -, hze, -, hzl, hg⟩ := DataW.trod_struct Try.underlying24 f21
  rw [hze] at wS
  have hz : zs.length = 2 := hzl
  have wL := wS.field Try.underlying24 (i := 0) rfl (List.getElem?_eq_getElem (by omega))
  have s0 : DataW.trod enc Try.prog w 0 spare held m' 22 ((((cs.drop 21).take 2).drop 0).take (Try.prog.cellsOf 22)) = zs[0]? := hg 0 _ rfl
  have s1 : DataW.trod enc Try.prog w 0 spare held m' 3 ((((cs.drop 21).take 2).drop 1).take (Try.prog.cellsOf 3)) = zs[1]? := hg 1 _ rfl
  rw [List.getElem?_eq_getElem (by omega), cl2] at s0
  rw [List.getElem?_eq_getElem (by omega), ci] at s1
  obtain ⟨A1, m1, d1, xst, es0, hmc1, hcm1, hr1, -, hwt1⟩ := open_kindS stopK (fun _ => True) Try.underlying22 (by kernel_rfl) (by decide) stop_elS s0 wL
  have bs : Try.prog.bytesOf 100 = 16 := by kernel_rfl
  rw [bs, reach_eq] at hwt1
  obtain ⟨xev, es1, -, -⟩ := DataW.trod_int Try.underlying3 s1
  have g21 := nest (one_cell es0) (by decide)
  have g22 := nest (one_cell es1) (by decide)
  have hln1 : xst.length = m1 := hr1.1
  subst hln1
  have f22 : DataW.trod enc Try.prog w 0 spare held n' 9 ((cs.drop 23).take (Try.prog.cellsOf 9)) = ys[22]? := hf 22 _ rfl
  rw [List.getElem?_eq_getElem (by omega), cs1] at f22
  obtain ⟨x22, e22, -, h22⟩ := DataW.trod_string Try.underlying9 f22
  have g23 := one_cell e22
  have f23 : DataW.trod enc Try.prog w 0 spare held n' 9 ((cs.drop 24).take (Try.prog.cellsOf 9)) = ys[23]? := hf 23 _ rfl
  rw [List.getElem?_eq_getElem (by omega), cs1] at f23
  obtain ⟨x23, e23, -, h23⟩ := DataW.trod_string Try.underlying9 f23
  have g24 := one_cell e23
  have f24 : DataW.trod enc Try.prog w 0 spare held n' 9 ((cs.drop 25).take (Try.prog.cellsOf 9)) = ys[24]? := hf 24 _ rfl
  rw [List.getElem?_eq_getElem (by omega), cs1] at f24
  obtain ⟨x24, e24, -, h24⟩ := DataW.trod_string Try.underlying9 f24
  have g25 := one_cell e24
  have f25 : DataW.trod enc Try.prog w 0 spare held n' 9 ((cs.drop 26).take (Try.prog.cellsOf 9)) = ys[25]? := hf 25 _ rfl
  rw [List.getElem?_eq_getElem (by omega), cs1] at f25
  obtain ⟨x25, e25, -, -⟩ := DataW.trod_string Try.underlying9 f25
  have g26 := one_cell e25
  have f26 : DataW.trod enc Try.prog w 0 spare held n' 9 ((cs.drop 27).take (Try.prog.cellsOf 9)) = ys[26]? := hf 26 _ rfl
  rw [List.getElem?_eq_getElem (by omega), cs1] at f26
  obtain ⟨x26, e26, -, -⟩ := DataW.trod_string Try.underlying9 f26
  have g27 := one_cell e26
  have f27 : DataW.trod enc Try.prog w 0 spare held n' 3 ((cs.drop 28).take (Try.prog.cellsOf 3)) = ys[27]? := hf 27 _ rfl
  rw [List.getElem?_eq_getElem (by omega), ci] at f27
  obtain ⟨x27, e27, -, -⟩ := DataW.trod_int Try.underlying3 f27
  have g28 := one_cell e27
  have f28 : DataW.trod enc Try.prog w 0 spare held n' 26 ((cs.drop 29).take (Try.prog.cellsOf 26)) = ys[28]? := hf 28 _ rfl
  rw [List.getElem?_eq_getElem (by omega), c6] at f28
  obtain ⟨us, k', -, -, -, hul, hh⟩ := DataW.trod_struct Try.underlying26 f28
  have hu : us.length = 6 := hul
  have t0 : DataW.trod enc Try.prog w 0 spare held k' 4 ((((cs.drop 29).take 6).drop 0).take (Try.prog.cellsOf 4)) = us[0]? := hh 0 _ rfl
  rw [List.getElem?_eq_getElem (by omega), cb] at t0
  obtain ⟨xn0, en0, -⟩ := DataW.trod_bool Try.underlying4 t0
  have g29 := nest (one_cell en0) (by decide)
  have t1 : DataW.trod enc Try.prog w 0 spare held k' 3 ((((cs.drop 29).take 6).drop 1).take (Try.prog.cellsOf 3)) = us[1]? := hh 1 _ rfl
  rw [List.getElem?_eq_getElem (by omega), ci] at t1
  obtain ⟨xn1, en1, -, -⟩ := DataW.trod_int Try.underlying3 t1
  have g30 := nest (one_cell en1) (by decide)
  have t2 : DataW.trod enc Try.prog w 0 spare held k' 3 ((((cs.drop 29).take 6).drop 2).take (Try.prog.cellsOf 3)) = us[2]? := hh 2 _ rfl
  rw [List.getElem?_eq_getElem (by omega), ci] at t2
  obtain ⟨xn2, en2, -, -⟩ := DataW.trod_int Try.underlying3 t2
  have g31 := nest (one_cell en2) (by decide)
  have t3 : DataW.trod enc Try.prog w 0 spare held k' 3 ((((cs.drop 29).take 6).drop 3).take (Try.prog.cellsOf 3)) = us[3]? := hh 3 _ rfl
  rw [List.getElem?_eq_getElem (by omega), ci] at t3
  obtain ⟨xn3, en3, -, -⟩ := DataW.trod_int Try.underlying3 t3
  have g32 := nest (one_cell en3) (by decide)
  have t4 : DataW.trod enc Try.prog w 0 spare held k' 3 ((((cs.drop 29).take 6).drop 4).take (Try.prog.cellsOf 3)) = us[4]? := hh 4 _ rfl
  rw [List.getElem?_eq_getElem (by omega), ci] at t4
  obtain ⟨xn4, en4, -, -⟩ := DataW.trod_int Try.underlying3 t4
  have g33 := nest (one_cell en4) (by decide)
  have t5 : DataW.trod enc Try.prog w 0 spare held k' 3 ((((cs.drop 29).take 6).drop 5).take (Try.prog.cellsOf 3)) = us[5]? := hh 5 _ rfl
  rw [List.getElem?_eq_getElem (by omega), ci] at t5
  obtain ⟨xn5, en5, -, -⟩ := DataW.trod_int Try.underlying3 t5
  have g34 := nest (one_cell en5) (by decide)
  have f29 : DataW.trod enc Try.prog w 0 spare held n' 27 ((cs.drop 35).take (Try.prog.cellsOf 27)) = ys[29]? := hf 29 _ rfl
  rw [List.getElem?_eq_getElem (by omega), cl] at f29
  obtain ⟨A2, m2, d2, x29, e29, hmc2, hcm2, hr2, hpz, hwt2⟩ := open_kindS boxK (fun z => z.f6.length ≤ 17592186044416 ∧ z.f4.size ≤ 9223372036854775807 ∧ z.f5.size ≤ 9223372036854775807) Try.underlying27 (by kernel_rfl) (by decide) box_elS f29 wR
  have bb : Try.prog.bytesOf 86 = 88 := by kernel_rfl
  rw [bb, reach_eq] at hwt2
  have g35 := one_cell e29
  have hln2 : x29.length = m2 := hr2.1
  subst hln2
  have f30 : DataW.trod enc Try.prog w 0 spare held n' 3 ((cs.drop 36).take (Try.prog.cellsOf 3)) = ys[30]? := hf 30 _ rfl
  rw [List.getElem?_eq_getElem (by omega), ci] at f30
  obtain ⟨x30, e30, -, -⟩ := DataW.trod_int Try.underlying3 f30
  have g36 := one_cell e30
  have f31 : DataW.trod enc Try.prog w 0 spare held n' 3 ((cs.drop 37).take (Try.prog.cellsOf 3)) = ys[31]? := hf 31 _ rfl
  rw [List.getElem?_eq_getElem (by omega), ci] at f31
  obtain ⟨x31, e31, -, -⟩ := DataW.trod_int Try.underlying3 f31
  have g37 := one_cell e31
  have f32 : DataW.trod enc Try.prog w 0 spare held n' 4 ((cs.drop 38).take (Try.prog.cellsOf 4)) = ys[32]? := hf 32 _ rfl
  rw [List.getElem?_eq_getElem (by omega), cb] at f32
  obtain ⟨x32, e32, -⟩ := DataW.trod_bool Try.underlying4 f32
  have g38 := one_cell e32
  have f33 : DataW.trod enc Try.prog w 0 spare held n' 4 ((cs.drop 39).take (Try.prog.cellsOf 4)) = ys[33]? := hf 33 _ rfl
  rw [List.getElem?_eq_getElem (by omega), cb] at f33
  obtain ⟨x33, e33, -⟩ := DataW.trod_bool Try.underlying4 f33
  have g39 := one_cell e33
  refine ⟨⟨x0, x1, x2, x3, x4, x5, x6, x7, x8, x9, x10, x11, x12, x13, x14, x15, x16, x17, x18, x19, x20, xst, xev, x22, x23, x24, x25, x26, x27, xn0, xn1, xn2, xn3, xn4, xn5, x29, x30, x31, x32, x33⟩, ⟨.slice A1 xst.length d1, .slice A2 x29.length d2, ?_, ⟨A1, d1, rfl, hmc1, by omega, hr1⟩, ⟨A2, d2, rfl, hmc2, by omega, hr2⟩⟩, ⟨by show xst.length ≤ _; omega, by show x29.length ≤ _; omega, fun y hy => (hpz y hy).1⟩, ⟨by show x22.size ≤ _; omega, by show x23.size ≤ _; omega, by show x24.size ≤ _; omega, fun y hy => (hpz y hy).2⟩⟩
  refine List.ext_getElem? fun i => ?_
  match i with
  | 0 => exact g0
  | 1 => exact g1
  | 2 => exact g2
  | 3 => exact g3
  | 4 => exact g4
  | 5 => exact g5
  | 6 => exact g6
  | 7 => exact g7
  | 8 => exact g8
  | 9 => exact g9
  | 10 => exact g10
  | 11 => exact g11
  | 12 => exact g12
  | 13 => exact g13
  | 14 => exact g14
  | 15 => exact g15
  | 16 => exact g16
  | 17 => exact g17
  | 18 => exact g18
  | 19 => exact g19
  | 20 => exact g20
  | 21 => exact g21
  | 22 => exact g22
  | 23 => exact g23
  | 24 => exact g24
  | 25 => exact g25
  | 26 => exact g26
  | 27 => exact g27
  | 28 => exact g28
  | 29 => exact g29
  | 30 => exact g30
  | 31 => exact g31
  | 32 => exact g32
  | 33 => exact g33
  | 34 => exact g34
  | 35 => exact g35
  | 36 => exact g36
  | 37 => exact g37
  | 38 => exact g38
  | 39 => exact g39
  | i + 40 =>
    rw [List.getElem?_eq_none (by omega)]
    rfl
theorem deed_elS (n : Nat) (cs : List Value) (y : DataW H × List MemPlace) (hl : cs.length = deedK.sz) (h : DataW.trod enc Try.prog w 0 spare held n 32 cs = some y) (hy0 : Light Try.prog 32 y.1) : ∃ z : DeedE, deedK.K w (fun _ => True) z cs ∧ (z.env.light ∧ z.env.strs ∧ -9223372036854775808 ≤ z.n ∧ z.n ≤ 9223372036854775807) := by
  obtain ⟨ys, n', -, hye, -, hyl, hf⟩ := DataW.trod_struct Try.underlying32 h
  rw [hye] at hy0
  have h43 : cs.length = 43 := hl
  have hy : ys.length = 4 := hyl
  have wE := hy0.field Try.underlying32 (i := 3) rfl (List.getElem?_eq_getElem (by omega))
  have ci : Try.prog.cellsOf 3 = 1 := by kernel_rfl
  have cs1 : Try.prog.cellsOf 9 = 1 := by kernel_rfl
  have ce : Try.prog.cellsOf 29 = 40 := by kernel_rfl
  have hm : maxLen = 9223372036854775807 := rfl
  have f0 : DataW.trod enc Try.prog w 0 spare held n' 3 ((cs.drop 0).take (Try.prog.cellsOf 3)) = ys[0]? := hf 0 _ rfl
  have f1 : DataW.trod enc Try.prog w 0 spare held n' 3 ((cs.drop 1).take (Try.prog.cellsOf 3)) = ys[1]? := hf 1 _ rfl
  have f2 : DataW.trod enc Try.prog w 0 spare held n' 9 ((cs.drop 2).take (Try.prog.cellsOf 9)) = ys[2]? := hf 2 _ rfl
  have f3 : DataW.trod enc Try.prog w 0 spare held n' 29 ((cs.drop 3).take (Try.prog.cellsOf 29)) = ys[3]? := hf 3 _ rfl
  rw [List.getElem?_eq_getElem (by omega)] at f0 f1 f2 f3
  rw [ci] at f0 f1
  rw [cs1] at f2
  rw [ce] at f3
  obtain ⟨k0, e0, -, -⟩ := DataW.trod_int Try.underlying3 f0
  obtain ⟨k1, e1, -, h1w⟩ := DataW.trod_int Try.underlying3 f1
  obtain ⟨s2, e2, -, h2⟩ := DataW.trod_string Try.underlying9 f2
  obtain ⟨z, hz, hzl, hzs⟩ := env_elS n' _ _ (by rw [List.length_take, List.length_drop]; omega) f3 wE
  have g0 := one_cell e0
  have g1 := one_cell e1
  have g2 := one_cell e2
  refine ⟨⟨k0, k1, s2, z⟩, ⟨(cs.drop 3).take 40, ?_, by show s2.size ≤ 9223372036854775807; omega, hz⟩, hzl, hzs, i64_bounds h1w⟩
  match cs, h43, g0, g1, g2 with
  | a0 :: a1 :: a2 :: r, h43, g0, g1, g2 =>
    have e0 : a0 = .int .i64 k0 := Option.some.inj g0
    have e1 : a1 = .int .i64 k1 := Option.some.inj g1
    have e2 : a2 = .string s2 := Option.some.inj g2
    show a0 :: a1 :: a2 :: r = .int .i64 k0 :: .int .i64 k1 :: .string s2 :: r.take 40
    rw [e0, e1, e2, List.take_of_length_le (by simp at h43; omega)]
theorem open_envS {r : Reach} {b0 : Nat} {v : Value} {x : DataW H} {ps : List MemPlace} (hval : Value.okWide Try.prog w r b0 29 v) (h : DataW.Trod enc Try.prog w 0 spare held 29 v x ps) (hx : Light Try.prog 29 x) :
    ∃ (z : EnvT) (u c : Value), v = .agg (z.cells u c).toArray ∧ envK.K w (fun _ => True) z (z.cells u c) ∧ z.light ∧ z.strs := by
  obtain ⟨cs, rfl, hsz⟩ := okWide_struct Try.underlying29 hval
  obtain ⟨fuel, hf⟩ := h
  have hc : Try.prog.cellsOf 29 = 40 := by kernel_rfl
  obtain ⟨z, hz, h1, h2⟩ := env_elS fuel cs.toList _ (by rw [Array.length_toList, hsz, hc]) hf hx
  obtain ⟨u, c, e, -⟩ := id hz
  exact ⟨z, u, c, by rw [← e, Array.toArray_toList], by rw [← e]; exact hz, h1, h2⟩
end
end Go.Proofs.Ytekkjieoikgpmaa
end
section
/- Arguments opened: rows of numbers within their bounds. -/
set_option linter.unusedVariables false
namespace Go.Proofs.Ytekkjieoikgpmaa
open Go.ChangeShapes Go.WideShapes Go.ChangeAt Go.RowKit Go.Deep
set_option maxRecDepth 1000000
theorem open_kindSA {H : Type} {enc : TypeId × Value → H} {P : Program} {w : World} {spare : Nat → Bool} {held : Bool} {α : Type} (d : Kind α) (Pz : α → Prop) {t e : TypeId} {r : Reach} {b0 : Nat} {v : Value} {x : DataW H} {ps : List MemPlace} (ht : P.underlying t = some (.slice e)) (hsz : P.cellsOf e = d.sz) (hs0 : 0 < d.sz)
    (hel : ∀ (n : Nat) (cs : List Value) (y : DataW H × List MemPlace), cs.length = d.sz → DataW.trod enc P w 0 spare held n e cs = some y → Light P e y.1 → ∃ z : α, d.K w (fun _ => True) z cs ∧ Pz z)
    (hval : Value.okWide P w r b0 t v) (h : DataW.Trod enc P w 0 spare held t v x ps) (hx : Light P t x) : ∃ A n c l, v = .slice A n c ∧ n ≤ c ∧ c ≤ maxLen ∧ d.Rd w (fun _ => True) A n l ∧ (∀ z ∈ l, Pz z) ∧ n * P.bytesOf e ≤ reachBytes := by
  obtain ⟨fuel, hf⟩ := h
  obtain ⟨A, n, c, l, hc, h1, h2, h3, h4, h5⟩ := open_kindS d Pz ht hsz hs0 hel hf hx
  exact ⟨A, n, c, l, okWide_slice_eq ht hval hc, h1, h2, h3, h4, h5⟩
section
variable {H : Type} {enc : TypeId × Value → H} {w : World} {spare : Nat → Bool} {held : Bool}
theorem int_elB (n : Nat) (cs : List Value) (y : DataW H × List MemPlace) (hl : cs.length = Kind.int.sz) (h : DataW.trod enc Try.prog w 0 spare held n 3 cs = some y) (hy : Light Try.prog 3 y.1) : ∃ z : Int, Kind.int.K w (fun _ => True) z cs ∧ (-9223372036854775808 ≤ z ∧ z ≤ 9223372036854775807) := by
  obtain ⟨k, e0, -, e2⟩ := DataW.trod_int Try.underlying3 h
  exact ⟨k, e0, i64_bounds e2⟩
end
end Go.Proofs.Ytekkjieoikgpmaa
end
