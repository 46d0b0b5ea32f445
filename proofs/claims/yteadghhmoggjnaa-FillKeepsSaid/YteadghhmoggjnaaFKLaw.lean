import Derived.Test.YteadghhmoggjnaaRows
import Derived.OpenShut
import Derived.Test.YteadghhmoggjnaaFK19
/- The law FillKeeps: the glyphs of the lines are those of the row, in order, but for a hyphen at the end of a line. Its row, proved. -/
set_option linter.unusedVariables false
namespace Go.Proofs.Yteadghhmoggjnaa.fillKeeps
open Go.ChangeShapes Go.WideShapes Go.ChangeAt Go.RowKit Go.Proofs.YteadghhmoggjnaaB
set_option maxRecDepth 100000 in
theorem lifted (os : Os) (started : os.Started) (H : Type) (enc : TypeId × Value → H) :
  ReturnsInHanded {} Try.checked os 6 .any (Rows.fillKeepsSpec.pre6 enc Try.prog Try.f6 Rows.fillKeepsRow.domain false) (Rows.fillKeepsSpec.post enc Try.prog Try.f6 false true false false) := by
 refine returnsInHanded_of_change_sized (C := Try.checked) own_ started (by kernel_rfl) Try.func6
  (ChangeSpec.witness6 (enc := enc) (C := Try.checked) false ⟨#[], #[.slice none 0 0, .int .i64 0, .int .i64 0], []⟩ 8 (by kernel_rfl) (by kernel_rfl) (by kernel_rfl) (by kernel_rfl)) ?_
 intro W base args ds gs before hval0 hW hcnd hsz0 _
 have hsz : (DataW.weightsEach Try.prog (Try.f6.params.toList ++ Rows.fillKeepsSpec.plain.varTypes Try.prog) (ds ++ gs)).all (· ≤ reachBytes) = true := hsz0
 have hval : ∀ (j : Nat) t v, Try.f6.params[j]? = some t → args[j]? = some v → Value.okWide Try.prog W .any base t v := hval0
 have hW' := hW
 obtain ⟨p, q, hA0, hV, rfl, hfz, hnd⟩ := hW
 have hA : DataW.TrodAll enc Try.prog W 0 (fun _ => true) true Try.f6.params.toList args.toList ds p := hA0
 rw [Try.params6] at hA hval hsz
 obtain ⟨v0, vs0, d0, ds0, p0, q0, hargs, rfl, rfl, h0, r0⟩ := trodAll_cons hA
 obtain ⟨v1, vs1, d1, ds1, p1, q1, rfl, rfl, rfl, h1, r1⟩ := trodAll_cons r0
 obtain ⟨v2, vs2, d2, ds2, p2, q2, rfl, rfl, rfl, h2, r2⟩ := trodAll_cons r1
 obtain ⟨rfl, rfl, rfl⟩ := trodAll_nil r2
 obtain rfl : args = #[v0, v1, v2] := by cases args; simp_all
 obtain ⟨rfl, rfl⟩ := trodVars_none hV
 obtain ⟨a0, len0, cap0, rfl⟩ := okWide_slice Try.underlying22 (hval 0 _ v0 rfl rfl)
 obtain ⟨fuel, hf⟩ := h0
 obtain ⟨A0, m0, c0, ns, e0, hmc0, hcm0, hr0, -, -⟩ := open_kindS Kind.int (fun _ => True) Try.underlying22 (by kernel_rfl) (by decide) int_el hf (fun n hn => of_decide_eq_true (List.all_eq_true.1 hsz n (DataW.weights_mem_each (j := 0) rfl rfl n hn)))
 have e1 : a0 = A0 ∧ len0 = m0 ∧ cap0 = c0 := by simpa [Value.cells] using e0
 obtain ⟨rfl, rfl, rfl⟩ := e1
 obtain ⟨a1, rfl, rfl, rfl, w1⟩ := open_int Try.underlying3 (hval 1 _ v1 rfl rfl) h1
 obtain ⟨a2, rfl, rfl, rfl, w2⟩ := open_int Try.underlying3 (hval 2 _ v2 rfl rfl) h2
 have hl0 : ns.length = len0 := hr0.1
 subst hl0
 have hm : maxLen = 9223372036854775807 := rfl
 obtain ⟨K, row, L, hF⟩ := keeps_facts ns a1 a2
 refine (FillKeeps_any ns a1 a2 a0 cap0 W K row L (C_ints (by omega) hr0) hmc0 hF).mono fun e W' ⟨he, hb⟩ => ?_
 subst he
 exact ⟨_, rfl, law_post laidOut_ rfl rfl rfl Try.underlying4 rfl rfl rfl (by decide +kernel) hW' hb⟩
theorem over : Rows.FillKeepsSaid :=
 OpenClaim.holds_of_wide 6 Try.f6 rfl rfl rfl rfl rfl rfl rfl ⟨rfl, rfl, rfl, rfl, rfl⟩ rfl rfl rfl rfl rfl (by kernel_rfl) Try.func6 (by kernel_rfl)
  (of_decide_eq_true (by kernel_rfl)) (by unfold Func.isWrapper; first | (rw [if_pos (by decide +kernel)]; kernel_rfl) | (rw [if_neg (by decide +kernel)]; exact ⟨rfl, rfl⟩))
  (fun os started H enc _ => lifted os started H enc)
end Go.Proofs.Yteadghhmoggjnaa.fillKeeps
namespace Go.Proofs.Yteadghhmoggjnaa
/-- The row, under a short name, for the claim. -/
theorem fillKeeps_holds : Rows.FillKeepsSaid := fillKeeps.over
#print axioms fillKeeps_holds
end Go.Proofs.Yteadghhmoggjnaa
