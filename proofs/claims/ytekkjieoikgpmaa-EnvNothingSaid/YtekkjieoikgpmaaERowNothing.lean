/- The law EnvNothing: its row, proved. -/
import Derived.Test.YtekkjieoikgpmaaE28
import Derived.Test.YtekkjieoikgpmaaE29
set_option linter.unusedVariables false
namespace Go.Proofs.Ytekkjieoikgpmaa
open Go.ChangeShapes Go.WideShapes Go.ChangeAt Go.RowKit

set_option maxRecDepth 100000 in
theorem EnvNothing_lifted (os : Os) (started : os.Started) (H : Type) (enc : TypeId × Value → H) :
    ReturnsInHanded {} Try.checked os 7 .any (Rows.envNothingSpec.pre6 enc Try.prog Try.f7 Rows.envNothingRow.domain false) (Rows.envNothingSpec.post enc Try.prog Try.f7 false true false false) := by
  refine returnsInHanded_of_change (C := Try.checked) own_ started (by kernel_rfl) Try.func7
    (ChangeSpec.witness6 (enc := enc) (C := Try.checked) false ⟨#[], #[.agg (DeedE.cells ⟨0, 0, ⟨#[]⟩, zeroT⟩ (zeroT.cells (.slice none 0 0) (.slice none 0 0))).toArray], []⟩ 8 (by kernel_rfl) (by kernel_rfl) (by kernel_rfl) (by kernel_rfl)) ?_
  intro W base args ds gs before hval0 hW hcnd _
  have hval : ∀ (j : Nat) t v, Try.f7.params[j]? = some t → args[j]? = some v → Value.okWide Try.prog W .any base t v := hval0
  have hW' := hW
  obtain ⟨p, q, hA0, hV, rfl, hfz, hnd⟩ := hW
  have hA : DataW.TrodAll enc Try.prog W 0 (fun _ => true) true Try.f7.params.toList args.toList ds p := hA0
  rw [Try.params7] at hA hval
  obtain ⟨v0, d0, rfl, rfl, h0⟩ := trodAll_one hA
  obtain ⟨rfl, rfl⟩ := trodVars_none hV
  obtain ⟨x, ec, rfl, hx⟩ := open_deed (hval 0 _ v0 rfl rfl) h0
  have hm : maxLen = 9223372036854775807 := rfl
  refine (EnvNothing_any x ec W hx).mono fun e W' ⟨he, hb⟩ => ?_
  subst he
  exact ⟨_, rfl, law_post laidOut_ rfl rfl rfl Try.underlying4 rfl rfl rfl (by decide +kernel) hW' hb⟩
theorem EnvNothing_holds : Rows.EnvNothingSaid :=
  OpenClaim.holds_of_wide 7 Try.f7 rfl rfl rfl rfl rfl rfl rfl ⟨rfl, rfl, rfl, rfl, rfl⟩ rfl rfl rfl rfl rfl (by kernel_rfl) Try.func7 (by kernel_rfl)
    (of_decide_eq_true (by kernel_rfl)) (by unfold Func.isWrapper; first | (rw [if_pos (by decide +kernel)]; kernel_rfl) | (rw [if_neg (by decide +kernel)]; exact ⟨rfl, rfl⟩))
    (fun os started H enc _ => EnvNothing_lifted os started H enc)
end Go.Proofs.Ytekkjieoikgpmaa
