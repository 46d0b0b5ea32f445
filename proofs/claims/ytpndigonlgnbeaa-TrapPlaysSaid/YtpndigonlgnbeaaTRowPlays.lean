/- The law TrapPlays: its row, proved. -/
import Derived.Test.YtpndigonlgnbeaaT36
import Derived.Test.YtpndigonlgnbeaaTRowWays
import Derived.Test.YtpndigonlgnbeaaTOpen2
set_option linter.unusedVariables false
namespace Go.Proofs.Ytpndigonlgnbeaa
open Go.ChangeShapes Go.WideShapes Go.ChangeAt Go.RowKit

theorem open_plays {H : Type} {enc : TypeId × Value → H} {w : World} {spare : Nat → Bool} {held : Bool} {r : Reach} {b0 : Nat} {v : Value} {x : DataW H} {ps : List MemPlace} (hval : Value.okWide Try.prog w r b0 37 v) (h : DataW.Trod enc Try.prog w 0 spare held 37 v x ps) :
    ∃ A n c l len f t, v = .agg #[.slice A n c, .int .i64 len, .int .i64 f, .int .i64 t] ∧ n ≤ 9223372036854775807 ∧ deedK.Rd w (fun _ => True) A n l := by
  obtain ⟨v0, v1, v2, v3, y0, y1, y2, y3, n, rfl, -, -, h0, h1, h2, h3⟩ := Go.Joins.open_agg4 Try.underlying37 (by kernel_rfl) (by kernel_rfl) hval h
  obtain ⟨A, m, c, l, e0, hmc, hcm, hr⟩ := open_kind_cells deedK Try.underlying22 (by kernel_rfl) (by decide) deed_el h0
  obtain ⟨len, e1, -, -⟩ := DataW.trod_int Try.underlying3 h1
  obtain ⟨f, e2, -, -⟩ := DataW.trod_int Try.underlying3 h2
  obtain ⟨t, e3, -, -⟩ := DataW.trod_int Try.underlying3 h3
  have hm : maxLen = 9223372036854775807 := rfl
  refine ⟨A, m, c, l, len, f, t, ?_, by omega, hr⟩
  injection e0 with e0; injection e1 with e1; injection e2 with e2; injection e3 with e3
  rw [e0, e1, e2, e3]

set_option maxRecDepth 100000 in
theorem TrapPlays_lifted (os : Os) (started : os.Started) (H : Type) (enc : TypeId × Value → H) :
    ReturnsInHanded {} Try.checked os 4 .any (Rows.trapPlaysSpec.pre6 enc Try.prog Try.f4 Rows.trapPlaysRow.domain false) (Rows.trapPlaysSpec.post enc Try.prog Try.f4 false true false false) := by
  refine returnsInHanded_of_change (C := Try.checked) own_ started (by kernel_rfl) Try.func4
    (ChangeSpec.witness6 (enc := enc) (C := Try.checked) false ⟨#[], #[.agg #[.slice none 0 0, .int .i64 0, .int .i64 0, .int .i64 0]], []⟩ 8 (by kernel_rfl) (by kernel_rfl) (by kernel_rfl) (by kernel_rfl)) ?_
  intro W base args ds gs before hval0 hW hcnd _
  have hval : ∀ (j : Nat) t v, Try.f4.params[j]? = some t → args[j]? = some v → Value.okWide Try.prog W .any base t v := hval0
  have hW' := hW
  obtain ⟨p, q, hA0, hV, rfl, hfz, hnd⟩ := hW
  have hA : DataW.TrodAll enc Try.prog W 0 (fun _ => true) true Try.f4.params.toList args.toList ds p := hA0
  rw [Try.params4] at hA hval
  obtain ⟨v0, d0, rfl, rfl, h0⟩ := trodAll_one hA
  obtain ⟨rfl, rfl⟩ := trodVars_none hV
  obtain ⟨A, n, c, l, len, f, t, rfl, h0m, h0r⟩ := open_plays (hval 0 _ v0 rfl rfl) h0
  have hm : maxLen = 9223372036854775807 := rfl
  refine (TrapPlays_any A n c l len f t W h0r h0m).mono fun e W' ⟨he, hb⟩ => ?_
  subst he
  exact ⟨_, rfl, law_post laidOut_ rfl rfl rfl Try.underlying4 rfl rfl rfl (by decide +kernel) hW' hb⟩
theorem TrapPlays_holds : Rows.TrapPlaysSaid :=
  OpenClaim.holds_of_wide 4 Try.f4 rfl rfl rfl rfl rfl rfl rfl ⟨rfl, rfl, rfl, rfl, rfl⟩ rfl rfl rfl rfl rfl (by kernel_rfl) Try.func4 (by kernel_rfl)
    (of_decide_eq_true (by kernel_rfl)) (by unfold Func.isWrapper; first | (rw [if_pos (by decide +kernel)]; kernel_rfl) | (rw [if_neg (by decide +kernel)]; exact ⟨rfl, rfl⟩))
    (fun os started H enc _ => TrapPlays_lifted os started H enc)
end Go.Proofs.Ytpndigonlgnbeaa
