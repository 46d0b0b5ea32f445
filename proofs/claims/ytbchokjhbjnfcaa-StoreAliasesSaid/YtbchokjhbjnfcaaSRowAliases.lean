/- The law StoreAliases: its row, proved. -/
import Derived.Test.YtbchokjhbjnfcaaSSized2
set_option linter.unusedVariables false
namespace Go.Proofs.Ytbchokjhbjnfcaa
open Go.ChangeShapes Go.WideShapes Go.ChangeAt Go.RowKit Go.Deep
theorem open_kindSA {H : Type} {enc : TypeId × Value → H} {P : Program} {w : World} {spare : Nat → Bool} {held : Bool} {α : Type} (d : Kind α) (Pz : α → Prop) {t e : TypeId} {r : Reach} {b0 : Nat} {v : Value} {x : DataW H} {ps : List MemPlace} (ht : P.underlying t = some (.slice e)) (hsz : P.cellsOf e = d.sz) (hs0 : 0 < d.sz)
    (hel : ∀ (n : Nat) (cs : List Value) (y : DataW H × List MemPlace), cs.length = d.sz → DataW.trod enc P w 0 spare held n e cs = some y → Light P e y.1 → ∃ z : α, d.K w (fun _ => True) z cs ∧ Pz z)
    (hval : Value.okWide P w r b0 t v) (h : DataW.Trod enc P w 0 spare held t v x ps) (hx : Light P t x) : ∃ A n c l, v = .slice A n c ∧ n ≤ c ∧ c ≤ maxLen ∧ d.Rd w (fun _ => True) A n l ∧ (∀ z ∈ l, Pz z) ∧ n * P.bytesOf e ≤ reachBytes := by
  obtain ⟨fuel, hf⟩ := h
  obtain ⟨A, n, c, l, hc, h1, h2, h3, h4, h5⟩ := open_kindS d Pz ht hsz hs0 hel hf hx
  exact ⟨A, n, c, l, okWide_slice_eq ht hval hc, h1, h2, h3, h4, h5⟩


set_option maxRecDepth 100000 in
theorem StoreAliases_lifted (os : Os) (started : os.Started) (H : Type) (enc : TypeId × Value → H) :
    ReturnsInHanded {} Try.checked os 7 .any (Rows.storeAliasesSpec.pre6 enc Try.prog Try.f7 Rows.storeAliasesRow.domain false) (Rows.storeAliasesSpec.post enc Try.prog Try.f7 false true false false) := by
  refine returnsInHanded_of_change_sized (C := Try.checked) own_ started (by kernel_rfl) Try.func7
    (ChangeSpec.witness6 (enc := enc) (C := Try.checked) false ⟨#[], #[.slice none 0 0], []⟩ 8 (by kernel_rfl) (by kernel_rfl) (by kernel_rfl) (by kernel_rfl)) ?_
  intro W base args ds gs before hval0 hW hcnd hsz0 _
  have hsz : (DataW.weightsEach Try.prog (Try.f7.params.toList ++ Rows.storeAliasesSpec.plain.varTypes Try.prog) (ds ++ gs)).all (· ≤ reachBytes) = true := hsz0
  have hval : ∀ (j : Nat) t v, Try.f7.params[j]? = some t → args[j]? = some v → Value.okWide Try.prog W .any base t v := hval0
  have hW' := hW
  obtain ⟨p, q, hA0, hV, rfl, hfz, hnd⟩ := hW
  have hA : DataW.TrodAll enc Try.prog W 0 (fun _ => true) true Try.f7.params.toList args.toList ds p := hA0
  rw [Try.params7] at hA hval hsz
  obtain ⟨v0, d0, rfl, rfl, h0⟩ := trodAll_one hA
  obtain ⟨rfl, rfl⟩ := trodVars_none hV
  have hm : maxLen = 9223372036854775807 := rfl
  have hre := reach_eq
  have bd : Try.prog.bytesOf 44 = 96 := by kernel_rfl
  obtain ⟨A1, n1, c1, l, rfl, k1, m1, r1, z1, s1⟩ := open_kindSA deedK (fun z => z.light ∧ ∀ y ∈ z.lines, ∀ q ∈ y.boxes, q.ns.length ≤ 17592186044416) Try.underlying46 (by kernel_rfl) (by decide) deed_elT (hval 0 _ v0 rfl rfl) h0 (fun n hn => of_decide_eq_true (List.all_eq_true.1 hsz n (DataW.weights_mem_each (j := 0) rfl rfl n hn)))
  rw [bd, hre] at s1
  refine (StoreAliases_any A1 n1 c1 l _ W r1 (by omega) (fun y hy => (z1 y hy).1) (fun y hy => (z1 y hy).2)).mono fun e W' ⟨he, hb⟩ => ?_
  subst he
  exact ⟨_, rfl, law_post laidOut_ rfl rfl rfl Try.underlying4 rfl rfl rfl (by decide +kernel) hW' hb⟩
theorem StoreAliases_holds : Rows.StoreAliasesSaid :=
  OpenClaim.holds_of_wide 7 Try.f7 rfl rfl rfl rfl rfl rfl rfl ⟨rfl, rfl, rfl, rfl, rfl⟩ rfl rfl rfl rfl rfl (by kernel_rfl) Try.func7 (by kernel_rfl)
    (of_decide_eq_true (by kernel_rfl)) (by unfold Func.isWrapper; first | (rw [if_pos (by decide +kernel)]; kernel_rfl) | (rw [if_neg (by decide +kernel)]; exact ⟨rfl, rfl⟩))
    (fun os started H enc _ => StoreAliases_lifted os started H enc)
#print axioms StoreAliases_holds
end Go.Proofs.Ytbchokjhbjnfcaa
