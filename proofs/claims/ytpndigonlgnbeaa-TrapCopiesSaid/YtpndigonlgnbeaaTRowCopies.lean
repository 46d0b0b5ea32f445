/- The law TrapCopies: its row, proved. -/
import Derived.Test.YtpndigonlgnbeaaT37
import Derived.Test.YtpndigonlgnbeaaTRowWays
set_option linter.unusedVariables false
namespace Go.Proofs.Ytpndigonlgnbeaa
open Go.ChangeShapes Go.WideShapes Go.ChangeAt Go.RowKit

set_option maxRecDepth 100000 in
theorem TrapCopies_lifted (os : Os) (started : os.Started) (H : Type) (enc : TypeId × Value → H) :
    ReturnsInHanded {} Try.checked os 6 .any (Rows.trapCopiesSpec.pre6 enc Try.prog Try.f6 Rows.trapCopiesRow.domain false) (Rows.trapCopiesSpec.post enc Try.prog Try.f6 false true false false) := by
  refine returnsInHanded_of_change (C := Try.checked) own_ started (by kernel_rfl) Try.func6
    (ChangeSpec.witness6 (enc := enc) (C := Try.checked) false ⟨#[], #[.slice none 0 0, .slice none 0 0, .int .i64 0], []⟩ 8 (by kernel_rfl) (by kernel_rfl) (by kernel_rfl) (by kernel_rfl)) ?_
  intro W base args ds gs before hval0 hW hcnd _
  have hval : ∀ (j : Nat) t v, Try.f6.params[j]? = some t → args[j]? = some v → Value.okWide Try.prog W .any base t v := hval0
  have hW' := hW
  obtain ⟨p, q, hA0, hV, rfl, hfz, hnd⟩ := hW
  have hA : DataW.TrodAll enc Try.prog W 0 (fun _ => true) true Try.f6.params.toList args.toList ds p := hA0
  rw [Try.params6] at hA hval
  obtain ⟨v0, v1, v2, d0, d1, d2, p0, p1, p2, rfl, rfl, rfl, h0, h1, h2⟩ := trodAll_three hA
  obtain ⟨rfl, rfl⟩ := trodVars_none hV
  obtain ⟨A, n, c, l, rfl, h0c, h0m, h0r⟩ := open_kind deedK Try.underlying22 (by kernel_rfl) (by decide) deed_el (hval 0 _ v0 rfl rfl) h0
  obtain ⟨B, m, d, l2, rfl, h1c, h1m, h1r⟩ := open_kind deedK Try.underlying22 (by kernel_rfl) (by decide) deed_el (hval 1 _ v1 rfl rfl) h1
  obtain ⟨len, rfl, -, -, -⟩ := open_int Try.underlying3 (hval 2 _ v2 rfl rfl) h2
  have hm : maxLen = 9223372036854775807 := rfl
  refine (TrapCopies_any A n c l B m d l2 len W h0r (by omega) h1r (by omega)).mono fun e W' ⟨he, hb⟩ => ?_
  subst he
  exact ⟨_, rfl, law_post laidOut_ rfl rfl rfl Try.underlying4 rfl rfl rfl (by decide +kernel) hW' hb⟩
theorem TrapCopies_holds : Rows.TrapCopiesSaid :=
  OpenClaim.holds_of_wide 6 Try.f6 rfl rfl rfl rfl rfl rfl rfl ⟨rfl, rfl, rfl, rfl, rfl⟩ rfl rfl rfl rfl rfl (by kernel_rfl) Try.func6 (by kernel_rfl)
    (of_decide_eq_true (by kernel_rfl)) (by unfold Func.isWrapper; first | (rw [if_pos (by decide +kernel)]; kernel_rfl) | (rw [if_neg (by decide +kernel)]; exact ⟨rfl, rfl⟩))
    (fun os started H enc _ => TrapCopies_lifted os started H enc)
end Go.Proofs.Ytpndigonlgnbeaa
