/- frisketlaw16.as: an environment for the reference; frisketref16.First. -/
import Derived.Test.YtekkjieoikgpmaaE41
import Derived.Test.YtekkjieoikgpmaaE24
set_option linter.unusedVariables false
set_option linter.unusedSimpArgs false
namespace Go.Proofs.Ytekkjieoikgpmaa
open Go.RowKit
set_option maxHeartbeats 3200000
set_option maxRecDepth 1000000

theorem yieldsIf_built {P : Program} {ops : Array Oper} {S : World → Prop} {op : Oper} {a : Act} (hw : Region.wanted op (yielded ops a.tmps) = true) (t : TypeId) (parts : Array (Nat × Operand)) (cs : Array Value) (ho : op.op = .build t parts)
    (hf : P.built t (parts.map fun (i, x) => (i, a.eval x)).toList = some cs) : YieldsIf P ops S op (.agg cs) a :=
  .inl ⟨hw, fun w _ => by
    unfold execOp
    simp only [ho, Sem.run_bind, run_build w t _ cs hf, Result.andThen_ok]
    rfl⟩
theorem list_one {cs : List Value} (h : cs.toArray.all (·.oneCell') = true) : ∀ z ∈ cs, z.oneCell' = true := by
  intro z hz
  have := Array.all_eq_true'.1 h z (by simpa using hz)
  exact this
theorem size_env16 : (Try.prog.info? 41).map (·.size) = some 40 := by kernel_rfl
theorem refFirst_any (w : World) : Calls Try.prog 13 #[] w fun e w' => e = .returned (.agg firstCs.toArray) ∧ Below w.heap.size w w' := by
  go_enter Try.func13, Try.ntmps13
  go_upto_region 1 with fail
  refine wp_one ?_
  intro W0 hb hbel hsz
  have HB := hide hb
  have HBEL := hide hbel
  clear hb hbel hsz
  go_wp2_with (first | refine wpList_built rfl 41 _ firstCs.toArray rfl (by kernel_rfl) ?_ | refine wpList_store_row rfl 41 _ _ rfl w.heap.size firstCs.toArray rfl rfl 41 _ HB.out size_env16 rfl (env_one firstT rfl rfl) ?_)
  refine bodyPost_ret (results_cell_row rfl _ _ w.heap.size 41 firstCs.toArray (0, 0) _ rfl (setRow_heap _ _ _ _ _ _ HB.out) Try.underlying41 rfl size_env16) rfl ?_
  exact ⟨rfl, below_setRow HBEL.out (Nat.le_refl _) _⟩
theorem sl_form {α : Type} {d : Kind α} {w : World} {ok : Nat → Prop} {v : Value} {l : List α} (h : d.Sl w ok v l) : ∃ A n c, v = .slice A n c := by
  obtain ⟨A, c, rfl, -⟩ := h
  exact ⟨_, _, _, rfl⟩
theorem as_any (x : EnvT) (u v : Value) (ok : Nat → Prop) (w : World) (hu : stopK.Sl w ok u x.stops) (hv : ∃ A n c, v = .slice A n c) (hs : x.stops.length ≤ 1000000000000) :
    Calls Try.prog 11 #[.agg (x.cells u v).toArray] w fun e w' => ∃ u', e = .returned (.agg (x.cells u' v).toArray) ∧ stopK.Sl w' (fun k => w.heap.size ≤ k) u' x.stops ∧ Below w.heap.size w w' := by
  obtain ⟨A1, c1, rfl, hl1, hc1, hr1⟩ := hu
  have HR1 := hide hr1
  obtain ⟨A2, n2, c2, rfl⟩ := hv
  have HS1 := hide hs
  clear hr1 hs
  go_enter Try.func11, Try.ntmps11
  go_upto_region 1 with fail
  refine wp_two ?_
  intro W0 hb1 hb2 hbel hsz
  have z29 : W0.cell? ⟨w.heap.size, 29, none⟩ = some (.bool x.on) := by rw [blk_cell hb1]; rfl
  have z30 : W0.cell? ⟨w.heap.size, 30, none⟩ = some (.int .i64 x.next) := by rw [blk_cell hb1]; rfl
  have z31 : W0.cell? ⟨w.heap.size, 31, none⟩ = some (.int .i64 x.nevery) := by rw [blk_cell hb1]; rfl
  have z32 : W0.cell? ⟨w.heap.size, 32, none⟩ = some (.int .i64 x.nspace) := by rw [blk_cell hb1]; rfl
  have z33 : W0.cell? ⟨w.heap.size, 33, none⟩ = some (.int .i64 x.nindent) := by rw [blk_cell hb1]; rfl
  have z34 : W0.cell? ⟨w.heap.size, 34, none⟩ = some (.int .i64 x.nskip) := by rw [blk_cell hb1]; rfl
  have HB1 := hide hb1
  have HB2 := hide hb2
  have HBEL := hide hbel
  have HSZ := hide hsz
  clear hb1 hb2 hbel hsz
  go_upto_region 2 with fail
  refine wp_one ?_
  intro W1 hb3 hbel1 hsz1
  have hbe1 : Below w.heap.size w W1 := HBEL.out.trans (hbel1.mono HBEL.out.size)
  have HBE1 := hide hbe1
  have HX1 := hide (blk_below HB2.out hbel1 (blk_lt HB2.out))
  obtain ⟨n3, hn3⟩ : ∃ n3, n3 = W0.heap.size := ⟨_, rfl⟩
  have HN3 := hide (show w.heap.size + 2 = n3 by rw [hn3, HSZ.out])
  have hS0 : (fun w' => w'.heap[w.heap.size]? = some (.cells (x.cells (.slice A1 x.stops.length c1) (.slice A2 n2 c2)).toArray 29 (0, 0)) ∧ w'.heap[n3]? = some (.cells #[.bool x.on, .int .i64 x.next, .int .i64 x.nevery, .int .i64 x.nspace, .int .i64 x.nindent, .int .i64 x.nskip] 26 (0, 0))) W1 := ⟨blk_below HB1.out hbel1 (blk_lt HB1.out), by rw [hn3]; exact hb3⟩
  have hS : ∀ W, Below W1.heap.size W1 W → (fun w' => w'.heap[w.heap.size]? = some (.cells (x.cells (.slice A1 x.stops.length c1) (.slice A2 n2 c2)).toArray 29 (0, 0)) ∧ w'.heap[n3]? = some (.cells #[.bool x.on, .int .i64 x.next, .int .i64 x.nevery, .int .i64 x.nspace, .int .i64 x.nindent, .int .i64 x.nskip] 26 (0, 0))) W := fun W hW => ⟨blk_below hS0.1 hW (blk_lt hS0.1), blk_below hS0.2 hW (blk_lt hS0.2)⟩
  have HS0 := hide (hS _ (Below.refl W1.heap.size W1).drew)
  rw [← hn3]
  clear hb3 hbel1 hsz1 hbe1 hS0 hn3 z29 z30 z31 z32 z33 z34
  refine wp_region_held_drew (S := (fun w' => w'.heap[w.heap.size]? = some (.cells (x.cells (.slice A1 x.stops.length c1) (.slice A2 n2 c2)).toArray 29 (0, 0)) ∧ w'.heap[n3]? = some (.cells #[.bool x.on, .int .i64 x.next, .int .i64 x.nevery, .int .i64 x.nspace, .int .i64 x.nindent, .int .i64 x.nskip] 26 (0, 0)))) (by kernel_rfl) HS0.out (fun hHeld => ?_)
  refine wpAnyH_take (i := 0) (v := ?_) rfl (by kernel_rfl) (by kernel_rfl) (by kernel_rfl) (fun _ _ _ h => h) (Or.inl ⟨by rfl, ?_⟩) (by assumption) ?_
  rotate_left
  · intro wq hSw
    go_simp
    try with_reducible rfl
  simp only [Act.put, List.setIfInBounds_toArray, List.set_cons_zero, List.set_cons_succ]
  refine wpAnyH_take (i := 1) (v := .int .i64 x.font) rfl (by kernel_rfl) (by kernel_rfl) (by kernel_rfl) (fun _ _ _ h => h) (Or.inl ⟨by rfl, ?_⟩) (by assumption) ?_
  · intro wq hSw
    have zc0 : wq.cell? ⟨w.heap.size, 0, none⟩ = some (.int .i64 x.font) := by rw [blk_cell hSw.1]; rfl
    clear hSw
    go_simp
    try with_reducible rfl
  simp only [Act.put, List.setIfInBounds_toArray, List.set_cons_zero, List.set_cons_succ]
  refine wpAnyH_take (i := 2) (v := ?_) rfl (by kernel_rfl) (by kernel_rfl) (by kernel_rfl) (fun _ _ _ h => h) (Or.inl ⟨by rfl, ?_⟩) (by assumption) ?_
  rotate_left
  · intro wq hSw
    go_simp
    try with_reducible rfl
  simp only [Act.put, List.setIfInBounds_toArray, List.set_cons_zero, List.set_cons_succ]
  refine wpAnyH_take (i := 3) (v := .int .i64 x.lastFont) rfl (by kernel_rfl) (by kernel_rfl) (by kernel_rfl) (fun _ _ _ h => h) (Or.inl ⟨by rfl, ?_⟩) (by assumption) ?_
  · intro wq hSw
    have zc1 : wq.cell? ⟨w.heap.size, 1, none⟩ = some (.int .i64 x.lastFont) := by rw [blk_cell hSw.1]; rfl
    clear hSw
    go_simp
    try with_reducible rfl
  simp only [Act.put, List.setIfInBounds_toArray, List.set_cons_zero, List.set_cons_succ]
  refine wpAnyH_take (i := 4) (v := ?_) rfl (by kernel_rfl) (by kernel_rfl) (by kernel_rfl) (fun _ _ _ h => h) (Or.inl ⟨by rfl, ?_⟩) (by assumption) ?_
  rotate_left
  · intro wq hSw
    go_simp
    try with_reducible rfl
  simp only [Act.put, List.setIfInBounds_toArray, List.set_cons_zero, List.set_cons_succ]
  refine wpAnyH_take (i := 5) (v := .int .i64 x.size) rfl (by kernel_rfl) (by kernel_rfl) (by kernel_rfl) (fun _ _ _ h => h) (Or.inl ⟨by rfl, ?_⟩) (by assumption) ?_
  · intro wq hSw
    have zc2 : wq.cell? ⟨w.heap.size, 2, none⟩ = some (.int .i64 x.size) := by rw [blk_cell hSw.1]; rfl
    clear hSw
    go_simp
    try with_reducible rfl
  simp only [Act.put, List.setIfInBounds_toArray, List.set_cons_zero, List.set_cons_succ]
  refine wpAnyH_take (i := 6) (v := ?_) rfl (by kernel_rfl) (by kernel_rfl) (by kernel_rfl) (fun _ _ _ h => h) (Or.inl ⟨by rfl, ?_⟩) (by assumption) ?_
  rotate_left
  · intro wq hSw
    go_simp
    try with_reducible rfl
  simp only [Act.put, List.setIfInBounds_toArray, List.set_cons_zero, List.set_cons_succ]
  refine wpAnyH_take (i := 7) (v := .int .i64 x.lastSize) rfl (by kernel_rfl) (by kernel_rfl) (by kernel_rfl) (fun _ _ _ h => h) (Or.inl ⟨by rfl, ?_⟩) (by assumption) ?_
  · intro wq hSw
    have zc3 : wq.cell? ⟨w.heap.size, 3, none⟩ = some (.int .i64 x.lastSize) := by rw [blk_cell hSw.1]; rfl
    clear hSw
    go_simp
    try with_reducible rfl
  simp only [Act.put, List.setIfInBounds_toArray, List.set_cons_zero, List.set_cons_succ]
  refine wpAnyH_take (i := 8) (v := ?_) rfl (by kernel_rfl) (by kernel_rfl) (by kernel_rfl) (fun _ _ _ h => h) (Or.inl ⟨by rfl, ?_⟩) (by assumption) ?_
  rotate_left
  · intro wq hSw
    go_simp
    try with_reducible rfl
  simp only [Act.put, List.setIfInBounds_toArray, List.set_cons_zero, List.set_cons_succ]
  refine wpAnyH_take (i := 9) (v := .int .i64 x.vs) rfl (by kernel_rfl) (by kernel_rfl) (by kernel_rfl) (fun _ _ _ h => h) (Or.inl ⟨by rfl, ?_⟩) (by assumption) ?_
  · intro wq hSw
    have zc4 : wq.cell? ⟨w.heap.size, 4, none⟩ = some (.int .i64 x.vs) := by rw [blk_cell hSw.1]; rfl
    clear hSw
    go_simp
    try with_reducible rfl
  simp only [Act.put, List.setIfInBounds_toArray, List.set_cons_zero, List.set_cons_succ]
  refine wpAnyH_take (i := 10) (v := ?_) rfl (by kernel_rfl) (by kernel_rfl) (by kernel_rfl) (fun _ _ _ h => h) (Or.inl ⟨by rfl, ?_⟩) (by assumption) ?_
  rotate_left
  · intro wq hSw
    go_simp
    try with_reducible rfl
  simp only [Act.put, List.setIfInBounds_toArray, List.set_cons_zero, List.set_cons_succ]
  refine wpAnyH_take (i := 11) (v := .int .i64 x.ls) rfl (by kernel_rfl) (by kernel_rfl) (by kernel_rfl) (fun _ _ _ h => h) (Or.inl ⟨by rfl, ?_⟩) (by assumption) ?_
  · intro wq hSw
    have zc5 : wq.cell? ⟨w.heap.size, 5, none⟩ = some (.int .i64 x.ls) := by rw [blk_cell hSw.1]; rfl
    clear hSw
    go_simp
    try with_reducible rfl
  simp only [Act.put, List.setIfInBounds_toArray, List.set_cons_zero, List.set_cons_succ]
  refine wpAnyH_take (i := 12) (v := ?_) rfl (by kernel_rfl) (by kernel_rfl) (by kernel_rfl) (fun _ _ _ h => h) (Or.inl ⟨by rfl, ?_⟩) (by assumption) ?_
  rotate_left
  · intro wq hSw
    go_simp
    try with_reducible rfl
  simp only [Act.put, List.setIfInBounds_toArray, List.set_cons_zero, List.set_cons_succ]
  refine wpAnyH_take (i := 13) (v := .int .i64 x.length) rfl (by kernel_rfl) (by kernel_rfl) (by kernel_rfl) (fun _ _ _ h => h) (Or.inl ⟨by rfl, ?_⟩) (by assumption) ?_
  · intro wq hSw
    have zc6 : wq.cell? ⟨w.heap.size, 6, none⟩ = some (.int .i64 x.length) := by rw [blk_cell hSw.1]; rfl
    clear hSw
    go_simp
    try with_reducible rfl
  simp only [Act.put, List.setIfInBounds_toArray, List.set_cons_zero, List.set_cons_succ]
  refine wpAnyH_take (i := 14) (v := ?_) rfl (by kernel_rfl) (by kernel_rfl) (by kernel_rfl) (fun _ _ _ h => h) (Or.inl ⟨by rfl, ?_⟩) (by assumption) ?_
  rotate_left
  · intro wq hSw
    go_simp
    try with_reducible rfl
  simp only [Act.put, List.setIfInBounds_toArray, List.set_cons_zero, List.set_cons_succ]
  refine wpAnyH_take (i := 15) (v := .int .i64 x.title) rfl (by kernel_rfl) (by kernel_rfl) (by kernel_rfl) (fun _ _ _ h => h) (Or.inl ⟨by rfl, ?_⟩) (by assumption) ?_
  · intro wq hSw
    have zc7 : wq.cell? ⟨w.heap.size, 7, none⟩ = some (.int .i64 x.title) := by rw [blk_cell hSw.1]; rfl
    clear hSw
    go_simp
    try with_reducible rfl
  simp only [Act.put, List.setIfInBounds_toArray, List.set_cons_zero, List.set_cons_succ]
  refine wpAnyH_take (i := 16) (v := ?_) rfl (by kernel_rfl) (by kernel_rfl) (by kernel_rfl) (fun _ _ _ h => h) (Or.inl ⟨by rfl, ?_⟩) (by assumption) ?_
  rotate_left
  · intro wq hSw
    go_simp
    try with_reducible rfl
  simp only [Act.put, List.setIfInBounds_toArray, List.set_cons_zero, List.set_cons_succ]
  refine wpAnyH_take (i := 17) (v := .int .i64 x.indent) rfl (by kernel_rfl) (by kernel_rfl) (by kernel_rfl) (fun _ _ _ h => h) (Or.inl ⟨by rfl, ?_⟩) (by assumption) ?_
  · intro wq hSw
    have zc8 : wq.cell? ⟨w.heap.size, 8, none⟩ = some (.int .i64 x.indent) := by rw [blk_cell hSw.1]; rfl
    clear hSw
    go_simp
    try with_reducible rfl
  simp only [Act.put, List.setIfInBounds_toArray, List.set_cons_zero, List.set_cons_succ]
  refine wpAnyH_take (i := 18) (v := ?_) rfl (by kernel_rfl) (by kernel_rfl) (by kernel_rfl) (fun _ _ _ h => h) (Or.inl ⟨by rfl, ?_⟩) (by assumption) ?_
  rotate_left
  · intro wq hSw
    go_simp
    try with_reducible rfl
  simp only [Act.put, List.setIfInBounds_toArray, List.set_cons_zero, List.set_cons_succ]
  refine wpAnyH_take (i := 19) (v := .int .i64 x.temp) rfl (by kernel_rfl) (by kernel_rfl) (by kernel_rfl) (fun _ _ _ h => h) (Or.inl ⟨by rfl, ?_⟩) (by assumption) ?_
  · intro wq hSw
    have zc9 : wq.cell? ⟨w.heap.size, 9, none⟩ = some (.int .i64 x.temp) := by rw [blk_cell hSw.1]; rfl
    clear hSw
    go_simp
    try with_reducible rfl
  simp only [Act.put, List.setIfInBounds_toArray, List.set_cons_zero, List.set_cons_succ]
  refine wpAnyH_take (i := 20) (v := ?_) rfl (by kernel_rfl) (by kernel_rfl) (by kernel_rfl) (fun _ _ _ h => h) (Or.inl ⟨by rfl, ?_⟩) (by assumption) ?_
  rotate_left
  · intro wq hSw
    go_simp
    try with_reducible rfl
  simp only [Act.put, List.setIfInBounds_toArray, List.set_cons_zero, List.set_cons_succ]
  refine wpAnyH_take (i := 21) (v := .bool x.fill) rfl (by kernel_rfl) (by kernel_rfl) (by kernel_rfl) (fun _ _ _ h => h) (Or.inl ⟨by rfl, ?_⟩) (by assumption) ?_
  · intro wq hSw
    have zc10 : wq.cell? ⟨w.heap.size, 10, none⟩ = some (.bool x.fill) := by rw [blk_cell hSw.1]; rfl
    clear hSw
    go_simp
    try with_reducible rfl
  simp only [Act.put, List.setIfInBounds_toArray, List.set_cons_zero, List.set_cons_succ]
  refine wpAnyH_take (i := 22) (v := ?_) rfl (by kernel_rfl) (by kernel_rfl) (by kernel_rfl) (fun _ _ _ h => h) (Or.inl ⟨by rfl, ?_⟩) (by assumption) ?_
  rotate_left
  · intro wq hSw
    go_simp
    try with_reducible rfl
  simp only [Act.put, List.setIfInBounds_toArray, List.set_cons_zero, List.set_cons_succ]
  refine wpAnyH_take (i := 23) (v := .bool x.adjust) rfl (by kernel_rfl) (by kernel_rfl) (by kernel_rfl) (fun _ _ _ h => h) (Or.inl ⟨by rfl, ?_⟩) (by assumption) ?_
  · intro wq hSw
    have zc11 : wq.cell? ⟨w.heap.size, 11, none⟩ = some (.bool x.adjust) := by rw [blk_cell hSw.1]; rfl
    clear hSw
    go_simp
    try with_reducible rfl
  simp only [Act.put, List.setIfInBounds_toArray, List.set_cons_zero, List.set_cons_succ]
  refine wpAnyH_take (i := 24) (v := ?_) rfl (by kernel_rfl) (by kernel_rfl) (by kernel_rfl) (fun _ _ _ h => h) (Or.inl ⟨by rfl, ?_⟩) (by assumption) ?_
  rotate_left
  · intro wq hSw
    go_simp
    try with_reducible rfl
  simp only [Act.put, List.setIfInBounds_toArray, List.set_cons_zero, List.set_cons_succ]
  refine wpAnyH_take (i := 25) (v := .bool x.hyphens) rfl (by kernel_rfl) (by kernel_rfl) (by kernel_rfl) (fun _ _ _ h => h) (Or.inl ⟨by rfl, ?_⟩) (by assumption) ?_
  · intro wq hSw
    have zc12 : wq.cell? ⟨w.heap.size, 12, none⟩ = some (.bool x.hyphens) := by rw [blk_cell hSw.1]; rfl
    clear hSw
    go_simp
    try with_reducible rfl
  simp only [Act.put, List.setIfInBounds_toArray, List.set_cons_zero, List.set_cons_succ]
  refine wpAnyH_take (i := 26) (v := ?_) rfl (by kernel_rfl) (by kernel_rfl) (by kernel_rfl) (fun _ _ _ h => h) (Or.inl ⟨by rfl, ?_⟩) (by assumption) ?_
  rotate_left
  · intro wq hSw
    go_simp
    try with_reducible rfl
  simp only [Act.put, List.setIfInBounds_toArray, List.set_cons_zero, List.set_cons_succ]
  refine wpAnyH_take (i := 27) (v := .bool x.ligs) rfl (by kernel_rfl) (by kernel_rfl) (by kernel_rfl) (fun _ _ _ h => h) (Or.inl ⟨by rfl, ?_⟩) (by assumption) ?_
  · intro wq hSw
    have zc13 : wq.cell? ⟨w.heap.size, 13, none⟩ = some (.bool x.ligs) := by rw [blk_cell hSw.1]; rfl
    clear hSw
    go_simp
    try with_reducible rfl
  simp only [Act.put, List.setIfInBounds_toArray, List.set_cons_zero, List.set_cons_succ]
  refine wpAnyH_take (i := 28) (v := ?_) rfl (by kernel_rfl) (by kernel_rfl) (by kernel_rfl) (fun _ _ _ h => h) (Or.inl ⟨by rfl, ?_⟩) (by assumption) ?_
  rotate_left
  · intro wq hSw
    go_simp
    try with_reducible rfl
  simp only [Act.put, List.setIfInBounds_toArray, List.set_cons_zero, List.set_cons_succ]
  refine wpAnyH_take (i := 29) (v := .bool x.kerns) rfl (by kernel_rfl) (by kernel_rfl) (by kernel_rfl) (fun _ _ _ h => h) (Or.inl ⟨by rfl, ?_⟩) (by assumption) ?_
  · intro wq hSw
    have zc14 : wq.cell? ⟨w.heap.size, 14, none⟩ = some (.bool x.kerns) := by rw [blk_cell hSw.1]; rfl
    clear hSw
    go_simp
    try with_reducible rfl
  simp only [Act.put, List.setIfInBounds_toArray, List.set_cons_zero, List.set_cons_succ]
  refine wpAnyH_take (i := 30) (v := ?_) rfl (by kernel_rfl) (by kernel_rfl) (by kernel_rfl) (fun _ _ _ h => h) (Or.inl ⟨by rfl, ?_⟩) (by assumption) ?_
  rotate_left
  · intro wq hSw
    go_simp
    try with_reducible rfl
  simp only [Act.put, List.setIfInBounds_toArray, List.set_cons_zero, List.set_cons_succ]
  refine wpAnyH_take (i := 31) (v := .int .u8 (x.mode.toNat : Int)) rfl (by kernel_rfl) (by kernel_rfl) (by kernel_rfl) (fun _ _ _ h => h) (Or.inl ⟨by rfl, ?_⟩) (by assumption) ?_
  · intro wq hSw
    have zc15 : wq.cell? ⟨w.heap.size, 15, none⟩ = some (.int .u8 (x.mode.toNat : Int)) := by rw [blk_cell hSw.1]; rfl
    clear hSw
    go_simp
    try with_reducible rfl
  simp only [Act.put, List.setIfInBounds_toArray, List.set_cons_zero, List.set_cons_succ]
  refine wpAnyH_take (i := 32) (v := ?_) rfl (by kernel_rfl) (by kernel_rfl) (by kernel_rfl) (fun _ _ _ h => h) (Or.inl ⟨by rfl, ?_⟩) (by assumption) ?_
  rotate_left
  · intro wq hSw
    go_simp
    try with_reducible rfl
  simp only [Act.put, List.setIfInBounds_toArray, List.set_cons_zero, List.set_cons_succ]
  refine wpAnyH_take (i := 33) (v := .int .i64 x.centre) rfl (by kernel_rfl) (by kernel_rfl) (by kernel_rfl) (fun _ _ _ h => h) (Or.inl ⟨by rfl, ?_⟩) (by assumption) ?_
  · intro wq hSw
    have zc16 : wq.cell? ⟨w.heap.size, 16, none⟩ = some (.int .i64 x.centre) := by rw [blk_cell hSw.1]; rfl
    clear hSw
    go_simp
    try with_reducible rfl
  simp only [Act.put, List.setIfInBounds_toArray, List.set_cons_zero, List.set_cons_succ]
  refine wpAnyH_take (i := 34) (v := ?_) rfl (by kernel_rfl) (by kernel_rfl) (by kernel_rfl) (fun _ _ _ h => h) (Or.inl ⟨by rfl, ?_⟩) (by assumption) ?_
  rotate_left
  · intro wq hSw
    go_simp
    try with_reducible rfl
  simp only [Act.put, List.setIfInBounds_toArray, List.set_cons_zero, List.set_cons_succ]
  refine wpAnyH_take (i := 35) (v := .int .i64 x.under) rfl (by kernel_rfl) (by kernel_rfl) (by kernel_rfl) (fun _ _ _ h => h) (Or.inl ⟨by rfl, ?_⟩) (by assumption) ?_
  · intro wq hSw
    have zc17 : wq.cell? ⟨w.heap.size, 17, none⟩ = some (.int .i64 x.under) := by rw [blk_cell hSw.1]; rfl
    clear hSw
    go_simp
    try with_reducible rfl
  simp only [Act.put, List.setIfInBounds_toArray, List.set_cons_zero, List.set_cons_succ]
  refine wpAnyH_take (i := 36) (v := ?_) rfl (by kernel_rfl) (by kernel_rfl) (by kernel_rfl) (fun _ _ _ h => h) (Or.inl ⟨by rfl, ?_⟩) (by assumption) ?_
  rotate_left
  · intro wq hSw
    go_simp
    try with_reducible rfl
  simp only [Act.put, List.setIfInBounds_toArray, List.set_cons_zero, List.set_cons_succ]
  refine wpAnyH_take (i := 37) (v := .int .i64 x.cross) rfl (by kernel_rfl) (by kernel_rfl) (by kernel_rfl) (fun _ _ _ h => h) (Or.inl ⟨by rfl, ?_⟩) (by assumption) ?_
  · intro wq hSw
    have zc18 : wq.cell? ⟨w.heap.size, 18, none⟩ = some (.int .i64 x.cross) := by rw [blk_cell hSw.1]; rfl
    clear hSw
    go_simp
    try with_reducible rfl
  simp only [Act.put, List.setIfInBounds_toArray, List.set_cons_zero, List.set_cons_succ]
  refine wpAnyH_take (i := 38) (v := ?_) rfl (by kernel_rfl) (by kernel_rfl) (by kernel_rfl) (fun _ _ _ h => h) (Or.inl ⟨by rfl, ?_⟩) (by assumption) ?_
  rotate_left
  · intro wq hSw
    go_simp
    try with_reducible rfl
  simp only [Act.put, List.setIfInBounds_toArray, List.set_cons_zero, List.set_cons_succ]
  refine wpAnyH_take (i := 39) (v := .int .i64 x.space) rfl (by kernel_rfl) (by kernel_rfl) (by kernel_rfl) (fun _ _ _ h => h) (Or.inl ⟨by rfl, ?_⟩) (by assumption) ?_
  · intro wq hSw
    have zc19 : wq.cell? ⟨w.heap.size, 19, none⟩ = some (.int .i64 x.space) := by rw [blk_cell hSw.1]; rfl
    clear hSw
    go_simp
    try with_reducible rfl
  simp only [Act.put, List.setIfInBounds_toArray, List.set_cons_zero, List.set_cons_succ]
  refine wpAnyH_take (i := 40) (v := ?_) rfl (by kernel_rfl) (by kernel_rfl) (by kernel_rfl) (fun _ _ _ h => h) (Or.inl ⟨by rfl, ?_⟩) (by assumption) ?_
  rotate_left
  · intro wq hSw
    go_simp
    try with_reducible rfl
  simp only [Act.put, List.setIfInBounds_toArray, List.set_cons_zero, List.set_cons_succ]
  refine wpAnyH_take (i := 41) (v := .int .i64 x.sentence) rfl (by kernel_rfl) (by kernel_rfl) (by kernel_rfl) (fun _ _ _ h => h) (Or.inl ⟨by rfl, ?_⟩) (by assumption) ?_
  · intro wq hSw
    have zc20 : wq.cell? ⟨w.heap.size, 20, none⟩ = some (.int .i64 x.sentence) := by rw [blk_cell hSw.1]; rfl
    clear hSw
    go_simp
    try with_reducible rfl
  simp only [Act.put, List.setIfInBounds_toArray, List.set_cons_zero, List.set_cons_succ]
  refine wpAnyH_take (i := 42) (v := ?_) rfl (by kernel_rfl) (by kernel_rfl) (by kernel_rfl) (fun _ _ _ h => h) (Or.inl ⟨by rfl, ?_⟩) (by assumption) ?_
  rotate_left
  · intro wq hSw
    go_simp
    try with_reducible rfl
  simp only [Act.put, List.setIfInBounds_toArray, List.set_cons_zero, List.set_cons_succ]
  refine wpAnyH_take (i := 43) (v := .agg #[.slice A1 x.stops.length c1, .int .i64 x.every]) rfl (by kernel_rfl) (by kernel_rfl) (by kernel_rfl) (fun _ _ _ h => h) (Or.inl ⟨by rfl, ?_⟩) (by assumption) ?_
  · intro wq hSw
    have zc21 : wq.cell? ⟨w.heap.size, 21, none⟩ = some (.slice A1 x.stops.length c1) := by rw [blk_cell hSw.1]; rfl
    have zc22 : wq.cell? ⟨w.heap.size, 22, none⟩ = some (.int .i64 x.every) := by rw [blk_cell hSw.1]; rfl
    clear hSw
    go_simp
    try with_reducible rfl
  simp only [Act.put, List.setIfInBounds_toArray, List.set_cons_zero, List.set_cons_succ]
  refine wpAnyH_take (i := 45) (v := ?_) rfl (by kernel_rfl) (by kernel_rfl) (by kernel_rfl) (fun _ _ _ h => h) (Or.inl ⟨by rfl, ?_⟩) (by assumption) ?_
  rotate_left
  · intro wq hSw
    go_simp
    try with_reducible rfl
  simp only [Act.put, List.setIfInBounds_toArray, List.set_cons_zero, List.set_cons_succ]
  refine wpAnyH_take (i := 46) (v := .string x.tab) rfl (by kernel_rfl) (by kernel_rfl) (by kernel_rfl) (fun _ _ _ h => h) (Or.inl ⟨by rfl, ?_⟩) (by assumption) ?_
  · intro wq hSw
    have zc23 : wq.cell? ⟨w.heap.size, 23, none⟩ = some (.string x.tab) := by rw [blk_cell hSw.1]; rfl
    clear hSw
    go_simp
    try with_reducible rfl
  simp only [Act.put, List.setIfInBounds_toArray, List.set_cons_zero, List.set_cons_succ]
  refine wpAnyH_take (i := 47) (v := ?_) rfl (by kernel_rfl) (by kernel_rfl) (by kernel_rfl) (fun _ _ _ h => h) (Or.inl ⟨by rfl, ?_⟩) (by assumption) ?_
  rotate_left
  · intro wq hSw
    go_simp
    try with_reducible rfl
  simp only [Act.put, List.setIfInBounds_toArray, List.set_cons_zero, List.set_cons_succ]
  refine wpAnyH_take (i := 48) (v := .string x.leader) rfl (by kernel_rfl) (by kernel_rfl) (by kernel_rfl) (fun _ _ _ h => h) (Or.inl ⟨by rfl, ?_⟩) (by assumption) ?_
  · intro wq hSw
    have zc24 : wq.cell? ⟨w.heap.size, 24, none⟩ = some (.string x.leader) := by rw [blk_cell hSw.1]; rfl
    clear hSw
    go_simp
    try with_reducible rfl
  simp only [Act.put, List.setIfInBounds_toArray, List.set_cons_zero, List.set_cons_succ]
  refine wpAnyH_take (i := 49) (v := ?_) rfl (by kernel_rfl) (by kernel_rfl) (by kernel_rfl) (fun _ _ _ h => h) (Or.inl ⟨by rfl, ?_⟩) (by assumption) ?_
  rotate_left
  · intro wq hSw
    go_simp
    try with_reducible rfl
  simp only [Act.put, List.setIfInBounds_toArray, List.set_cons_zero, List.set_cons_succ]
  refine wpAnyH_take (i := 50) (v := .string x.margin) rfl (by kernel_rfl) (by kernel_rfl) (by kernel_rfl) (fun _ _ _ h => h) (Or.inl ⟨by rfl, ?_⟩) (by assumption) ?_
  · intro wq hSw
    have zc25 : wq.cell? ⟨w.heap.size, 25, none⟩ = some (.string x.margin) := by rw [blk_cell hSw.1]; rfl
    clear hSw
    go_simp
    try with_reducible rfl
  simp only [Act.put, List.setIfInBounds_toArray, List.set_cons_zero, List.set_cons_succ]
  refine wpAnyH_take (i := 51) (v := ?_) rfl (by kernel_rfl) (by kernel_rfl) (by kernel_rfl) (fun _ _ _ h => h) (Or.inl ⟨by rfl, ?_⟩) (by assumption) ?_
  rotate_left
  · intro wq hSw
    go_simp
    try with_reducible rfl
  simp only [Act.put, List.setIfInBounds_toArray, List.set_cons_zero, List.set_cons_succ]
  refine wpAnyH_take (i := 52) (v := .string x.colour) rfl (by kernel_rfl) (by kernel_rfl) (by kernel_rfl) (fun _ _ _ h => h) (Or.inl ⟨by rfl, ?_⟩) (by assumption) ?_
  · intro wq hSw
    have zc26 : wq.cell? ⟨w.heap.size, 26, none⟩ = some (.string x.colour) := by rw [blk_cell hSw.1]; rfl
    clear hSw
    go_simp
    try with_reducible rfl
  simp only [Act.put, List.setIfInBounds_toArray, List.set_cons_zero, List.set_cons_succ]
  refine wpAnyH_take (i := 53) (v := ?_) rfl (by kernel_rfl) (by kernel_rfl) (by kernel_rfl) (fun _ _ _ h => h) (Or.inl ⟨by rfl, ?_⟩) (by assumption) ?_
  rotate_left
  · intro wq hSw
    go_simp
    try with_reducible rfl
  simp only [Act.put, List.setIfInBounds_toArray, List.set_cons_zero, List.set_cons_succ]
  refine wpAnyH_take (i := 54) (v := .string x.lastColour) rfl (by kernel_rfl) (by kernel_rfl) (by kernel_rfl) (fun _ _ _ h => h) (Or.inl ⟨by rfl, ?_⟩) (by assumption) ?_
  · intro wq hSw
    have zc27 : wq.cell? ⟨w.heap.size, 27, none⟩ = some (.string x.lastColour) := by rw [blk_cell hSw.1]; rfl
    clear hSw
    go_simp
    try with_reducible rfl
  simp only [Act.put, List.setIfInBounds_toArray, List.set_cons_zero, List.set_cons_succ]
  refine wpAnyH_take (i := 55) (v := ?_) rfl (by kernel_rfl) (by kernel_rfl) (by kernel_rfl) (fun _ _ _ h => h) (Or.inl ⟨by rfl, ?_⟩) (by assumption) ?_
  rotate_left
  · intro wq hSw
    go_simp
    try with_reducible rfl
  simp only [Act.put, List.setIfInBounds_toArray, List.set_cons_zero, List.set_cons_succ]
  refine wpAnyH_take (i := 56) (v := .int .i64 x.marginAt) rfl (by kernel_rfl) (by kernel_rfl) (by kernel_rfl) (fun _ _ _ h => h) (Or.inl ⟨by rfl, ?_⟩) (by assumption) ?_
  · intro wq hSw
    have zc28 : wq.cell? ⟨w.heap.size, 28, none⟩ = some (.int .i64 x.marginAt) := by rw [blk_cell hSw.1]; rfl
    clear hSw
    go_simp
    try with_reducible rfl
  simp only [Act.put, List.setIfInBounds_toArray, List.set_cons_zero, List.set_cons_succ]
  refine wpAnyH_take (i := 57) (v := ?_) rfl (by kernel_rfl) (by kernel_rfl) (by kernel_rfl) (fun _ _ _ h => h) (Or.inl ⟨by rfl, ?_⟩) (by assumption) ?_
  rotate_left
  · intro wq hSw
    go_simp
    try with_reducible rfl
  simp only [Act.put, List.setIfInBounds_toArray, List.set_cons_zero, List.set_cons_succ]
  refine wpAnyH_take (i := 58) (v := .bool x.on) rfl (by kernel_rfl) (by kernel_rfl) (by kernel_rfl) (fun _ _ _ h => h) (Or.inl ⟨by rfl, ?_⟩) (by assumption) ?_
  · intro wq hSw
    have zc0 : wq.cell? ⟨n3, 0, none⟩ = some (.bool x.on) := by rw [blk_cell hSw.2]; rfl
    clear hSw
    go_simp
    try with_reducible rfl
  simp only [Act.put, List.setIfInBounds_toArray, List.set_cons_zero, List.set_cons_succ]
  refine wpAnyH_take (i := 59) (v := ?_) rfl (by kernel_rfl) (by kernel_rfl) (by kernel_rfl) (fun _ _ _ h => h) (Or.inl ⟨by rfl, ?_⟩) (by assumption) ?_
  rotate_left
  · intro wq hSw
    go_simp
    try with_reducible rfl
  simp only [Act.put, List.setIfInBounds_toArray, List.set_cons_zero, List.set_cons_succ]
  refine wpAnyH_take (i := 60) (v := .int .i64 x.next) rfl (by kernel_rfl) (by kernel_rfl) (by kernel_rfl) (fun _ _ _ h => h) (Or.inl ⟨by rfl, ?_⟩) (by assumption) ?_
  · intro wq hSw
    have zc1 : wq.cell? ⟨n3, 1, none⟩ = some (.int .i64 x.next) := by rw [blk_cell hSw.2]; rfl
    clear hSw
    go_simp
    try with_reducible rfl
  simp only [Act.put, List.setIfInBounds_toArray, List.set_cons_zero, List.set_cons_succ]
  refine wpAnyH_take (i := 61) (v := ?_) rfl (by kernel_rfl) (by kernel_rfl) (by kernel_rfl) (fun _ _ _ h => h) (Or.inl ⟨by rfl, ?_⟩) (by assumption) ?_
  rotate_left
  · intro wq hSw
    go_simp
    try with_reducible rfl
  simp only [Act.put, List.setIfInBounds_toArray, List.set_cons_zero, List.set_cons_succ]
  refine wpAnyH_take (i := 62) (v := .int .i64 x.nevery) rfl (by kernel_rfl) (by kernel_rfl) (by kernel_rfl) (fun _ _ _ h => h) (Or.inl ⟨by rfl, ?_⟩) (by assumption) ?_
  · intro wq hSw
    have zc2 : wq.cell? ⟨n3, 2, none⟩ = some (.int .i64 x.nevery) := by rw [blk_cell hSw.2]; rfl
    clear hSw
    go_simp
    try with_reducible rfl
  simp only [Act.put, List.setIfInBounds_toArray, List.set_cons_zero, List.set_cons_succ]
  refine wpAnyH_take (i := 63) (v := ?_) rfl (by kernel_rfl) (by kernel_rfl) (by kernel_rfl) (fun _ _ _ h => h) (Or.inl ⟨by rfl, ?_⟩) (by assumption) ?_
  rotate_left
  · intro wq hSw
    go_simp
    try with_reducible rfl
  simp only [Act.put, List.setIfInBounds_toArray, List.set_cons_zero, List.set_cons_succ]
  refine wpAnyH_take (i := 64) (v := .int .i64 x.nspace) rfl (by kernel_rfl) (by kernel_rfl) (by kernel_rfl) (fun _ _ _ h => h) (Or.inl ⟨by rfl, ?_⟩) (by assumption) ?_
  · intro wq hSw
    have zc3 : wq.cell? ⟨n3, 3, none⟩ = some (.int .i64 x.nspace) := by rw [blk_cell hSw.2]; rfl
    clear hSw
    go_simp
    try with_reducible rfl
  simp only [Act.put, List.setIfInBounds_toArray, List.set_cons_zero, List.set_cons_succ]
  refine wpAnyH_take (i := 65) (v := ?_) rfl (by kernel_rfl) (by kernel_rfl) (by kernel_rfl) (fun _ _ _ h => h) (Or.inl ⟨by rfl, ?_⟩) (by assumption) ?_
  rotate_left
  · intro wq hSw
    go_simp
    try with_reducible rfl
  simp only [Act.put, List.setIfInBounds_toArray, List.set_cons_zero, List.set_cons_succ]
  refine wpAnyH_take (i := 66) (v := .int .i64 x.nindent) rfl (by kernel_rfl) (by kernel_rfl) (by kernel_rfl) (fun _ _ _ h => h) (Or.inl ⟨by rfl, ?_⟩) (by assumption) ?_
  · intro wq hSw
    have zc4 : wq.cell? ⟨n3, 4, none⟩ = some (.int .i64 x.nindent) := by rw [blk_cell hSw.2]; rfl
    clear hSw
    go_simp
    try with_reducible rfl
  simp only [Act.put, List.setIfInBounds_toArray, List.set_cons_zero, List.set_cons_succ]
  refine wpAnyH_take (i := 67) (v := ?_) rfl (by kernel_rfl) (by kernel_rfl) (by kernel_rfl) (fun _ _ _ h => h) (Or.inl ⟨by rfl, ?_⟩) (by assumption) ?_
  rotate_left
  · intro wq hSw
    go_simp
    try with_reducible rfl
  simp only [Act.put, List.setIfInBounds_toArray, List.set_cons_zero, List.set_cons_succ]
  refine wpAnyH_take (i := 68) (v := .int .i64 x.nskip) rfl (by kernel_rfl) (by kernel_rfl) (by kernel_rfl) (fun _ _ _ h => h) (Or.inl ⟨by rfl, ?_⟩) (by assumption) ?_
  · intro wq hSw
    have zc5 : wq.cell? ⟨n3, 5, none⟩ = some (.int .i64 x.nskip) := by rw [blk_cell hSw.2]; rfl
    clear hSw
    go_simp
    try with_reducible rfl
  simp only [Act.put, List.setIfInBounds_toArray, List.set_cons_zero, List.set_cons_succ]
  refine wpAnyH_take (i := 69) (v := .agg #[.bool x.on, .int .i64 x.next, .int .i64 x.nevery, .int .i64 x.nspace, .int .i64 x.nindent, .int .i64 x.nskip]) rfl (by kernel_rfl) (by kernel_rfl) (by kernel_rfl) (fun _ _ _ h => h) (yieldsIf_built (by rfl) 39 _ _ rfl (by kernel_rfl)) (by assumption) ?_
  simp only [Act.put, List.setIfInBounds_toArray, List.set_cons_zero, List.set_cons_succ]
  refine wpAnyH_take (i := 70) (v := ?_) rfl (by kernel_rfl) (by kernel_rfl) (by kernel_rfl) (fun _ _ _ h => h) (Or.inl ⟨by rfl, ?_⟩) (by assumption) ?_
  rotate_left
  · intro wq hSw
    go_simp
    try with_reducible rfl
  simp only [Act.put, List.setIfInBounds_toArray, List.set_cons_zero, List.set_cons_succ]
  refine wpAnyH_take (i := 71) (v := .slice A2 n2 c2) rfl (by kernel_rfl) (by kernel_rfl) (by kernel_rfl) (fun _ _ _ h => h) (Or.inl ⟨by rfl, ?_⟩) (by assumption) ?_
  · intro wq hSw
    have zc35 : wq.cell? ⟨w.heap.size, 35, none⟩ = some (.slice A2 n2 c2) := by rw [blk_cell hSw.1]; rfl
    clear hSw
    go_simp
    try with_reducible rfl
  simp only [Act.put, List.setIfInBounds_toArray, List.set_cons_zero, List.set_cons_succ]
  refine wpAnyH_take (i := 72) (v := ?_) rfl (by kernel_rfl) (by kernel_rfl) (by kernel_rfl) (fun _ _ _ h => h) (Or.inl ⟨by rfl, ?_⟩) (by assumption) ?_
  rotate_left
  · intro wq hSw
    go_simp
    try with_reducible rfl
  simp only [Act.put, List.setIfInBounds_toArray, List.set_cons_zero, List.set_cons_succ]
  refine wpAnyH_take (i := 73) (v := .int .i64 x.before) rfl (by kernel_rfl) (by kernel_rfl) (by kernel_rfl) (fun _ _ _ h => h) (Or.inl ⟨by rfl, ?_⟩) (by assumption) ?_
  · intro wq hSw
    have zc36 : wq.cell? ⟨w.heap.size, 36, none⟩ = some (.int .i64 x.before) := by rw [blk_cell hSw.1]; rfl
    clear hSw
    go_simp
    try with_reducible rfl
  simp only [Act.put, List.setIfInBounds_toArray, List.set_cons_zero, List.set_cons_succ]
  refine wpAnyH_take (i := 74) (v := ?_) rfl (by kernel_rfl) (by kernel_rfl) (by kernel_rfl) (fun _ _ _ h => h) (Or.inl ⟨by rfl, ?_⟩) (by assumption) ?_
  rotate_left
  · intro wq hSw
    go_simp
    try with_reducible rfl
  simp only [Act.put, List.setIfInBounds_toArray, List.set_cons_zero, List.set_cons_succ]
  refine wpAnyH_take (i := 75) (v := .int .i64 x.after) rfl (by kernel_rfl) (by kernel_rfl) (by kernel_rfl) (fun _ _ _ h => h) (Or.inl ⟨by rfl, ?_⟩) (by assumption) ?_
  · intro wq hSw
    have zc37 : wq.cell? ⟨w.heap.size, 37, none⟩ = some (.int .i64 x.after) := by rw [blk_cell hSw.1]; rfl
    clear hSw
    go_simp
    try with_reducible rfl
  simp only [Act.put, List.setIfInBounds_toArray, List.set_cons_zero, List.set_cons_succ]
  refine wpAnyH_take (i := 76) (v := ?_) rfl (by kernel_rfl) (by kernel_rfl) (by kernel_rfl) (fun _ _ _ h => h) (Or.inl ⟨by rfl, ?_⟩) (by assumption) ?_
  rotate_left
  · intro wq hSw
    go_simp
    try with_reducible rfl
  simp only [Act.put, List.setIfInBounds_toArray, List.set_cons_zero, List.set_cons_succ]
  refine wpAnyH_take (i := 77) (v := .bool x.joined) rfl (by kernel_rfl) (by kernel_rfl) (by kernel_rfl) (fun _ _ _ h => h) (Or.inl ⟨by rfl, ?_⟩) (by assumption) ?_
  · intro wq hSw
    have zc38 : wq.cell? ⟨w.heap.size, 38, none⟩ = some (.bool x.joined) := by rw [blk_cell hSw.1]; rfl
    clear hSw
    go_simp
    try with_reducible rfl
  simp only [Act.put, List.setIfInBounds_toArray, List.set_cons_zero, List.set_cons_succ]
  refine wpAnyH_take (i := 78) (v := ?_) rfl (by kernel_rfl) (by kernel_rfl) (by kernel_rfl) (fun _ _ _ h => h) (Or.inl ⟨by rfl, ?_⟩) (by assumption) ?_
  rotate_left
  · intro wq hSw
    go_simp
    try with_reducible rfl
  simp only [Act.put, List.setIfInBounds_toArray, List.set_cons_zero, List.set_cons_succ]
  refine wpAnyH_take (i := 79) (v := .bool x.odd) rfl (by kernel_rfl) (by kernel_rfl) (by kernel_rfl) (fun _ _ _ h => h) (Or.inl ⟨by rfl, ?_⟩) (by assumption) ?_
  · intro wq hSw
    have zc39 : wq.cell? ⟨w.heap.size, 39, none⟩ = some (.bool x.odd) := by rw [blk_cell hSw.1]; rfl
    clear hSw
    go_simp
    try with_reducible rfl
  simp only [Act.put, List.setIfInBounds_toArray, List.set_cons_zero, List.set_cons_succ]
  refine wpAnyH_ready (rs := [44]) (by kernel_rfl) (by simp) (AllReadyH.cons rfl (fun K hK => ?_) AllReadyH.nil)
  go_simp
  refine (As12_any A1 c1 x.stops x.every ok _ (HR1.out.below HBE1.out.drew) (by have := HS1.out; omega)).mono ?_
  rintro e w4 ⟨u', rfl, q1, q2⟩
  have hb4 : Below W1.heap.size W1 w4 := (Below.refl W1.heap.size W1).drew.trans (q2.mono (Nat.le_refl _))
  have HB4 := hide hb4
  have HU4 := hide q1
  have HS4 := hide (hS w4 hb4)
  have HX4 := hide (blk_below HX1.out hb4 (blk_lt HX1.out))
  clear q1 q2 hb4 hS
  go_wp2_with fail
  refine hK.out _ _ HS4.out (fun hHeld2 => ?_)
  clear hK K hHeld
  have hHeld := hHeld2
  clear hHeld2
  try simp only [Act.put, List.setIfInBounds_toArray, List.set_cons_zero, List.set_cons_succ]
  obtain ⟨cs, hcs⟩ : ∃ cs, cs = x.cells u' (.slice A2 n2 c2) := ⟨_, rfl⟩
  have HCS := hide hcs
  have h1 : ∀ z ∈ cs, z.oneCell' = true := by
    rw [hcs]
    exact list_one (env_one x HU4.out.one rfl)
  have hl : cs.length = 40 := by rw [hcs]; rfl
  have hst : (storeCells ⟨w.heap.size + 1, 0, none⟩ cs 0).run Try.prog w4 = .ok () (w4.setRow (w.heap.size + 1) cs.toArray) := store_row w4 _ _ _ cs HX4.out (by rw [hl]; rfl) h1
  have HS5 := hide (show (fun w' => w'.heap[w.heap.size]? = some (.cells (x.cells (.slice A1 x.stops.length c1) (.slice A2 n2 c2)).toArray 29 (0, 0)) ∧ w'.heap[n3]? = some (.cells #[.bool x.on, .int .i64 x.next, .int .i64 x.nevery, .int .i64 x.nspace, .int .i64 x.nindent, .int .i64 x.nskip] 26 (0, 0))) (w4.setRow (w.heap.size + 1) cs.toArray) from ⟨(setRow_other w4 _ _ _ (by omega)).trans HS4.out.1, (setRow_other w4 _ _ _ (by have := HN3.out; omega)).trans HS4.out.2⟩)
  clear hcs h1
  refine wpAnyH_take (i := 80) (v := .agg cs.toArray) rfl (by kernel_rfl) (by kernel_rfl) (by kernel_rfl) (fun _ _ _ h => h) (yieldsIf_built (by rfl) 41 _ _ rfl (by rw [HCS.out]; kernel_rfl)) (by assumption) ?_
  simp only [Act.put, List.setIfInBounds_toArray, List.set_cons_zero, List.set_cons_succ]
  refine wpAnyH_ready (rs := [81]) (by kernel_rfl) (by simp) (AllReadyH.cons rfl (fun K hK => ?_) AllReadyH.nil)
  go_simp
  refine hK.out _ _ HS5.out (fun hHeld2 => ?_)
  clear hK K hHeld hst
  try simp only [Act.put, List.setIfInBounds_toArray, List.set_cons_zero, List.set_cons_succ]
  clear hHeld2
  refine wpAnyH_done (by kernel_rfl) ?_ _
  go_wp2_with fail
  refine bodyPost_ret (results_cell_row rfl _ _ (w.heap.size + 1) 41 cs.toArray (0, 0) _ rfl (setRow_heap _ _ _ _ _ _ HX4.out) Try.underlying41 rfl (by rw [size_env16]; simp [hl])) rfl ?_
  refine ⟨u', by rw [HCS.out], (HU4.out.step (fun k hk _ => setRow_other w4 _ k _ (by have := HBE1.out.size; have := HN3.out; have h5 : W1.drew.heap.size = W1.heap.size := rfl; have := blk_lt HS0.out.2; omega))).weaken (fun k hk => ?_), below_setRow (HBE1.out.trans (HB4.out.mono HBE1.out.size)) (Nat.le_succ _) _⟩
  have h5 : W1.drew.heap.size = W1.heap.size := rfl
  have := HBE1.out.size
  omega
end Go.Proofs.Ytekkjieoikgpmaa
