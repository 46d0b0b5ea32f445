/- The law EnvApart: its row, proved. -/
import Derived.Test.YtekkjieoikgpmaaE39
import Derived.Test.YtekkjieoikgpmaaGInts
set_option linter.unusedVariables false
namespace Go.Proofs.Ytekkjieoikgpmaa
open Go.ChangeShapes Go.WideShapes Go.ChangeAt Go.RowKit Go.Deep
set_option maxRecDepth 100000 in
theorem EnvApart_lifted (os : Os) (started : os.Started) (H : Type) (enc : TypeId × Value → H) :
    ReturnsInHanded {} Try.checked os 5 .any (Rows.envApartSpec.pre6 enc Try.prog Try.f5 Rows.envApartRow.domain false) (Rows.envApartSpec.post enc Try.prog Try.f5 false true false false) := by
  refine returnsInHanded_of_change_sized (C := Try.checked) own_ started (by kernel_rfl) Try.func5
    (ChangeSpec.witness6 (enc := enc) (C := Try.checked) false ⟨#[], #[.slice none 0 0], []⟩ 8 (by kernel_rfl) (by kernel_rfl) (by kernel_rfl) (by kernel_rfl)) ?_
  intro W base args ds gs before hval0 hW hcnd hsz0 _
  have hsz : (DataW.weightsEach Try.prog (Try.f5.params.toList ++ Rows.envApartSpec.plain.varTypes Try.prog) (ds ++ gs)).all (· ≤ reachBytes) = true := hsz0
  have hval : ∀ (j : Nat) t v, Try.f5.params[j]? = some t → args[j]? = some v → Value.okWide Try.prog W .any base t v := hval0
  have hW' := hW
  obtain ⟨p, q, hA0, hV, rfl, hfz, hnd⟩ := hW
  have hA : DataW.TrodAll enc Try.prog W 0 (fun _ => true) true Try.f5.params.toList args.toList ds p := hA0
  rw [Try.params5] at hA hval hsz
  obtain ⟨v0, d0, rfl, rfl, h0⟩ := trodAll_one hA
  obtain ⟨rfl, rfl⟩ := trodVars_none hV
  have hm : maxLen = 9223372036854775807 := rfl
  have hre := reach_eq
  have bi : Try.prog.bytesOf 3 = 8 := by kernel_rfl
  obtain ⟨A0, n0, c0, l0, rfl, k0, m0, r0, z0, s0⟩ := open_kindSA Kind.int (fun z => -9223372036854775808 ≤ z ∧ z ≤ 9223372036854775807) Try.underlying54 (by kernel_rfl) (by decide) int_elB (hval 0 _ v0 rfl rfl) h0 (fun n hn => of_decide_eq_true (List.all_eq_true.1 hsz n (DataW.weights_mem_each (j := 0) rfl rfl n hn)))
  rw [bi, hre] at s0
  refine (EnvApart_any A0 n0 c0 l0 _ W r0 z0 (by omega)).mono fun e W' ⟨he, hb⟩ => ?_
  subst he
  exact ⟨_, rfl, law_post laidOut_ rfl rfl rfl Try.underlying4 rfl rfl rfl (by decide +kernel) hW' hb⟩
theorem EnvApart_holds : Rows.EnvApartSaid :=
  OpenClaim.holds_of_wide 5 Try.f5 rfl rfl rfl rfl rfl rfl rfl ⟨rfl, rfl, rfl, rfl, rfl⟩ rfl rfl rfl rfl rfl (by kernel_rfl) Try.func5 (by kernel_rfl)
    (of_decide_eq_true (by kernel_rfl)) (by unfold Func.isWrapper; first | (rw [if_pos (by decide +kernel)]; kernel_rfl) | (rw [if_neg (by decide +kernel)]; exact ⟨rfl, rfl⟩))
    (fun os started H enc _ => EnvApart_lifted os started H enc)
#print axioms EnvApart_holds
end Go.Proofs.Ytekkjieoikgpmaa
