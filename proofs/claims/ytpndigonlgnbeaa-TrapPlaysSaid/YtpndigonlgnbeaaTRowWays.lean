/- The law TrapWays: its row, proved. -/
import Derived.Test.YtpndigonlgnbeaaTOpen
set_option linter.unusedVariables false
set_option linter.unusedSimpArgs false
namespace Go.Proofs.Ytpndigonlgnbeaa
open Go.ChangeShapes Go.WideShapes Go.ChangeAt Go.RowKit

theorem own_ : ownKnob Try.prog.godebug = none := by kernel_rfl
theorem laidOut_ : laidOutB Try.prog = true := by kernel_rfl

section
variable {H : Type} {enc : TypeId × Value → H} {w : World} {spare : Nat → Bool} {held : Bool}
theorem deed_el (n : Nat) (cs : List Value) (y : DataW H × List MemPlace) (hl : cs.length = deedK.sz) (h : DataW.trod enc Try.prog w 0 spare held n 43 cs = some y) : ∃ z : DeedT, deedK.K w (fun _ => True) z cs := by
  obtain ⟨ys, n', -, -, -, hyl, hf⟩ := DataW.trod_struct Try.underlying43 h
  have h3 : cs.length = 3 := hl
  match cs, h3 with
  | [a, b, c], _ =>
    have f0 := hf 0 _ rfl
    have f1 := hf 1 _ rfl
    have f2 := hf 2 _ rfl
    have hy : ys.length = 3 := hyl
    rw [List.getElem?_eq_getElem (by omega)] at f0 f1 f2
    obtain ⟨k, e0, -, -⟩ := DataW.trod_int Try.underlying3 f0
    obtain ⟨at_, e1, -, -⟩ := DataW.trod_int Try.underlying3 f1
    obtain ⟨s, e2, -, hs⟩ := DataW.trod_string Try.underlying9 f2
    have ci : Try.prog.cellsOf 3 = 1 := by kernel_rfl
    have cs : Try.prog.cellsOf 9 = 1 := by kernel_rfl
    have g0 : List.take (Try.prog.cellsOf 3) [a, b, c] = [.int .i64 k] := e0
    have g1 : List.take (Try.prog.cellsOf 3) [b, c] = [.int .i64 at_] := e1
    have g2 : List.take (Try.prog.cellsOf 9) [c] = [.string s] := e2
    rw [ci] at g0 g1
    rw [cs] at g2
    have z0 : a = .int .i64 k := by simpa using g0
    have z1 : b = .int .i64 at_ := by simpa using g1
    have z2 : c = .string s := by simpa using g2
    exact ⟨⟨k, at_, s⟩, by rw [z0, z1, z2]; rfl, by have hm : maxLen = 9223372036854775807 := rfl; show s.size ≤ 9223372036854775807; omega⟩
theorem int_el (n : Nat) (cs : List Value) (y : DataW H × List MemPlace) (hl : cs.length = Kind.int.sz) (h : DataW.trod enc Try.prog w 0 spare held n 3 cs = some y) : ∃ z : Int, Kind.int.K w (fun _ => True) z cs := by
  obtain ⟨k, e0, -, -⟩ := DataW.trod_int Try.underlying3 h
  exact ⟨k, e0⟩
end
set_option maxRecDepth 100000 in
theorem TrapWays_lifted (os : Os) (started : os.Started) (H : Type) (enc : TypeId × Value → H) :
    ReturnsInHanded {} Try.checked os 3 .any (Rows.trapWaysSpec.pre6 enc Try.prog Try.f3 Rows.trapWaysRow.domain false) (Rows.trapWaysSpec.post enc Try.prog Try.f3 false true false false) := by
  refine returnsInHanded_of_change (C := Try.checked) own_ started (by kernel_rfl) Try.func3
    (ChangeSpec.witness6 (enc := enc) (C := Try.checked) false ⟨#[], #[.slice none 0 0, .int .i64 0, .slice none 0 0], []⟩ 8 (by kernel_rfl) (by kernel_rfl) (by kernel_rfl) (by kernel_rfl)) ?_
  intro W base args ds gs before hval0 hW hcnd _
  have hval : ∀ (j : Nat) t v, Try.f3.params[j]? = some t → args[j]? = some v → Value.okWide Try.prog W .any base t v := hval0
  have hW' := hW
  obtain ⟨p, q, hA0, hV, rfl, hfz, hnd⟩ := hW
  have hA : DataW.TrodAll enc Try.prog W 0 (fun _ => true) true Try.f3.params.toList args.toList ds p := hA0
  rw [Try.params3] at hA hval
  obtain ⟨v0, v1, v2, d0, d1, d2, p0, p1, p2, rfl, rfl, rfl, h0, h1, h2⟩ := trodAll_three hA
  obtain ⟨rfl, rfl⟩ := trodVars_none hV
  obtain ⟨A, n, c, l, rfl, hnc, hcm, hr⟩ := open_kind deedK Try.underlying22 (by kernel_rfl) (by decide) deed_el (hval 0 _ v0 rfl rfl) h0
  obtain ⟨len, rfl, -, -, -⟩ := open_int Try.underlying3 (hval 1 _ v1 rfl rfl) h1
  obtain ⟨B, m, d, cuts, rfl, hmd, hdm, hr2⟩ := open_kind Kind.int Try.underlying23 (by kernel_rfl) (by decide) int_el (hval 2 _ v2 rfl rfl) h2
  have hm : maxLen = 9223372036854775807 := rfl
  refine (TrapWays_any A n c l len B m d cuts W hr (by omega) hr2 (by omega)).mono fun e W' ⟨he, hb⟩ => ?_
  subst he
  exact ⟨_, rfl, law_post laidOut_ rfl rfl rfl Try.underlying4 rfl rfl rfl (by decide +kernel) hW' hb⟩
theorem TrapWays_holds : Rows.TrapWaysSaid :=
  OpenClaim.holds_of_wide 3 Try.f3 rfl rfl rfl rfl rfl rfl rfl ⟨rfl, rfl, rfl, rfl, rfl⟩ rfl rfl rfl rfl rfl (by kernel_rfl) Try.func3 (by kernel_rfl)
    (of_decide_eq_true (by kernel_rfl)) (by unfold Func.isWrapper; first | (rw [if_pos (by decide +kernel)]; kernel_rfl) | (rw [if_neg (by decide +kernel)]; exact ⟨rfl, rfl⟩))
    (fun os started H enc _ => TrapWays_lifted os started H enc)
end Go.Proofs.Ytpndigonlgnbeaa
