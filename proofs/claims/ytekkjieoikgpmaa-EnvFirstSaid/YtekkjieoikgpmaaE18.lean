/- The environments: Take. -/
import Derived.Test.YtekkjieoikgpmaaE17
set_option linter.unusedVariables false
set_option linter.unusedSimpArgs false
namespace Go.Proofs.Ytekkjieoikgpmaa
open Go.RowKit
set_option maxHeartbeats 3200000
set_option maxRecDepth 1000000

/-- An environment with what waits of another one. -/
def takeT (y x : EnvT) : EnvT := { y with row := x.row, before := x.before, after := x.after, joined := x.joined }
theorem take_small {y x : EnvT} (hy : y.small) (hx : x.small) : (takeT y x).small := ⟨hy.1, hx.2.1, hx.2.2⟩
theorem take_cells (y x : EnvT) (u v r : Value) : ((((y.cells u v).toArray.setIfInBounds 35 r).setIfInBounds 36 (.int .i64 x.before)).setIfInBounds 37 (.int .i64 x.after)).setIfInBounds 38 (.bool x.joined) = ((takeT y x).cells u r).toArray := rfl
theorem wp_gen {P : Program} {c : Code} {Q : Exit → Act → World → Prop} {a : Act} {w : World} (R : World → Prop) (h1 : R w) (h2 : ∀ W, R W → c.wp P Q a W) : c.wp P Q a w := h2 w h1
theorem Take_none {X : Nat → Prop} {w : World} {g b sz : Nat} {F : ByteArray → Option EnvT} {now : ByteArray} {sv : Value} {L : List ByteArray} (h : EnvsAt X w g b F sz now sv L) {s : ByteArray} (hsn : s.size ≤ 9223372036854775807) (hx : F s = none) :
    Calls Try.prog 25 #[.pointer (some ⟨g, 0, none⟩), .string s] w fun e w' => e = .returned (.int .i64 6) ∧ Below w.heap.size w w' := by
  obtain ⟨c0, c1, c2⟩ := h.cells
  have hlk := h.no_val hsn hx
  obtain ⟨C, hC⟩ : ∃ C, C = (zeroT.cells (.slice none 0 0) (.slice none 0 0)).toArray := ⟨_, rfl⟩
  have hCl : C.size = 40 := by rw [hC]; rfl
  have hC1 : C.all (·.oneCell') = true := by rw [hC]; exact env_one zeroT rfl rfl
  have hzv : zeroV = .agg C := by rw [hC]; rfl
  rw [hzv] at hlk
  have hCs : (Try.prog.info? 29).map (·.size) = some C.size := by rw [size_env, hCl]
  have HCL := hide hCl
  have HC1 := hide hC1
  have HCS := hide hCs
  clear h hC hzv hx hCl hC1 hCs c1 c2
  go_enter Try.func25, Try.ntmps25
  go_upto_region 4 with (first
    | refine wpList_store_row rfl 29 _ _ rfl w.heap.size C rfl rfl 29 _ (blk_new _ _) HCS.out (by rw [HCL.out]; rfl) HC1.out ?_
    | (go_at_call 51; refine (none_at _ _ _ c0).mono ?_; rintro e w' ⟨rfl, rfl⟩))
  refine wp_setRow (blk_new _ _) ?_
  intro W0 hb hk hsz
  have hbel : Below w.heap.size w W0 := ((Below.refl _ _).alloc (Nat.le_refl _) (.cells _ 29)).trans (hk.below (by simp) (fun i h => by omega))
  have HBEL := hide hbel
  clear hb hk hsz hbel hlk
  go_wp2_with fail
  go_ret
  exact ⟨rfl, HBEL.out⟩
theorem Take_some {X : Nat → Prop} {w : World} {g b sz : Nat} {F : ByteArray → Option EnvT} {now : ByteArray} {sv : Value} {L : List ByteArray} (h : EnvsAt X w g b F sz now sv L) {s : ByteArray} {y x : EnvT} (hy : F s = some y) (hx : F now = some x) :
    Calls Try.prog 25 #[.pointer (some ⟨g, 0, none⟩), .string s] w fun e w' => e = .returned (.int .i64 0) ∧ EnvsAt X w' g b (updT F now (takeT y x)) sz now sv L ∧ Kept (fun k => k = b) w w' := by
  obtain ⟨c0, c1, c2⟩ := h.cells
  obtain ⟨csy, hKy, -, hlk⟩ := h.val hy
  have hCl : csy.toArray.size = 40 := by have : csy.length = 40 := envK.len hKy; simpa using this
  have hC1 : csy.toArray.all (·.oneCell') = true := all_oneCell_toArray (envK.one hKy)
  have hCs : (Try.prog.info? 29).map (·.size) = some csy.toArray.size := by rw [size_env, hCl]
  obtain ⟨csx, hKx, hlx, -⟩ := h.val hx
  obtain ⟨ux, vx, rfl, -, hvx⟩ := id hKx
  have HVX := hide hvx
  have HKX := hide hKx
  have HLX := hide hlx
  obtain ⟨V, V1, V2⟩ := h.map
  have HV1 := hide V1
  have HV2 := hide V2
  clear hvx hKx hlx V1 V2
  have H := hide h
  have HX := hide hx
  have HCL := hide hCl
  have HC1 := hide hC1
  have HCS := hide hCs
  have HKY := hide hKy
  have HSY := hide (h.small _ _ hy)
  have HSX := hide (h.small _ _ hx)
  have HNS := hide (h.named _ _ hx)
  have HBW := hide (h.mut_lt b (.inr (.inl rfl)))
  have HGW := hide h.lt
  clear h hx hCl hC1 hCs hKy c2
  go_enter Try.func25, Try.ntmps25
  go_upto_region 4 with (first
    | refine wpList_store_row rfl 29 _ _ rfl w.heap.size csy.toArray rfl rfl 29 _ (blk_new _ _) HCS.out (by rw [HCL.out]; rfl) HC1.out ?_
    | (go_at_call 51; refine (none_at _ _ _ c0).mono ?_; rintro e w' ⟨rfl, rfl⟩))
  refine wp_setRow (blk_new _ _) ?_
  intro W0 hb hk hsz
  have hbel : Below w.heap.size w W0 := ((Below.refl _ _).alloc (Nat.le_refl _) (.cells _ 29)).trans (hk.below (by simp) (fun i h => by omega))
  have hsz0 : W0.heap.size = w.heap.size + 1 := by rw [hsz]; simp
  have HB0 := hide hb
  have HBEL := hide hbel
  have HSZ0 := hide hsz0
  have HH := hide (H.out.below hbel)
  clear hb hk hsz hbel hlk c0 c1 hsz0
  have hS : ∀ W, Below W0.heap.size W0 W → (fun w' => w'.cell? ⟨g, 0, none⟩ = some (.map (some b)) ∧ w'.cell? ⟨g, 1, none⟩ = some (.string now) ∧ (Instr.lookup 65 (.map (some b)) (.string now) false).run Try.prog w' = .ok (.agg (x.cells ux vx).toArray) w') W := fun W hW => ⟨(HH.out.below hW).cells.1, (HH.out.below hW).cells.2.1, H.out.look_step (by have := HNS.out; omega) HLX.out ((hW.block b (HH.out.mut_lt b (.inr (.inl rfl)))).trans (HBEL.out.block b HBW.out))⟩
  have HS := hide hS
  have hst : ∀ Z : Array Value, Z.size = 40 → (storeCells ⟨W0.heap.size, 0, none⟩ (x.cells ux vx) 0).run Try.prog ((W0.alloc (.cells Z 29)).drew) = .ok () (((W0.alloc (.cells Z 29)).drew).setRow W0.heap.size (x.cells ux vx).toArray) := fun Z hZ =>
    store_row _ _ _ Z (x.cells ux vx) (blk_new W0 _) (by rw [hZ]; rfl) (envK.one HKX.out)
  clear hS
  go_upto_region 6 with fail
  refine wp_region_held_drew (S := (fun w' => w'.cell? ⟨g, 0, none⟩ = some (.map (some b)) ∧ w'.cell? ⟨g, 1, none⟩ = some (.string now) ∧ (Instr.lookup 65 (.map (some b)) (.string now) false).run Try.prog w' = .ok (.agg (x.cells ux vx).toArray) w')) (by kernel_rfl) (HS.out _ ((Below.refl _ _).drew)) (fun hHeld => ?_)
  refine wpAnyH_take (i := 0) (v := ?_) rfl (by kernel_rfl) (by kernel_rfl) (by kernel_rfl) (fun _ _ _ h => h) (Or.inl ⟨by rfl, ?_⟩) (by assumption) ?_
  rotate_left
  · intro wq hSw
    try dsimp only at hSw
    go_simp
    try with_reducible rfl
  simp only [Act.put, List.setIfInBounds_toArray, List.set_cons_zero, List.set_cons_succ]
  refine wpAnyH_take (i := 1) (v := ?_) rfl (by kernel_rfl) (by kernel_rfl) (by kernel_rfl) (fun _ _ _ h => h) (Or.inl ⟨by rfl, ?_⟩) (by assumption) ?_
  rotate_left
  · intro wq hSw
    try dsimp only at hSw
    go_simp
    try with_reducible rfl
  simp only [Act.put, List.setIfInBounds_toArray, List.set_cons_zero, List.set_cons_succ]
  refine wpAnyH_take (i := 2) (v := ?_) rfl (by kernel_rfl) (by kernel_rfl) (by kernel_rfl) (fun _ _ _ h => h) (Or.inl ⟨by rfl, ?_⟩) (by assumption) ?_
  rotate_left
  · intro wq hSw
    try dsimp only at hSw
    go_simp
    try with_reducible rfl
  simp only [Act.put, List.setIfInBounds_toArray, List.set_cons_zero, List.set_cons_succ]
  refine wpAnyH_take (i := 3) (v := ?_) rfl (by kernel_rfl) (by kernel_rfl) (by kernel_rfl) (fun _ _ _ h => h) (Or.inl ⟨by rfl, ?_⟩) (by assumption) ?_
  rotate_left
  · intro wq hSw
    try dsimp only at hSw
    go_simp
    try with_reducible rfl
  simp only [Act.put, List.setIfInBounds_toArray, List.set_cons_zero, List.set_cons_succ]
  refine wpAnyH_take (i := 4) (v := ?_) rfl (by kernel_rfl) (by kernel_rfl) (by kernel_rfl) (fun _ _ _ h => h) (Or.inl ⟨by rfl, ?_⟩) (by assumption) ?_
  rotate_left
  · intro wq hSw
    try dsimp only at hSw
    go_simp
    try with_reducible rfl
  simp only [Act.put, List.setIfInBounds_toArray, List.set_cons_zero, List.set_cons_succ]
  refine wpAnyH_take (i := 5) (v := ?_) rfl (by kernel_rfl) (by kernel_rfl) (by kernel_rfl) (fun _ _ _ h => h) (Or.inl ⟨by rfl, ?_⟩) (by assumption) ?_
  rotate_left
  · intro wq hSw
    try dsimp only at hSw
    go_simp
    try with_reducible rfl
  simp only [Act.put, List.setIfInBounds_toArray, List.set_cons_zero, List.set_cons_succ]
  refine wpAnyH_take (i := 6) (v := ?_) rfl (by kernel_rfl) (by kernel_rfl) (by kernel_rfl) (fun _ _ _ h => h) (Or.inl ⟨by rfl, ?_⟩) (by assumption) ?_
  rotate_left
  · intro wq hSw
    try dsimp only at hSw
    go_simp
    try with_reducible rfl
  simp only [Act.put, List.setIfInBounds_toArray, List.set_cons_zero, List.set_cons_succ]
  refine wpAnyH_take (i := 7) (v := ?_) rfl (by kernel_rfl) (by kernel_rfl) (by kernel_rfl) (fun _ _ _ h => h) (Or.inl ⟨by rfl, ?_⟩) (by assumption) ?_
  rotate_left
  · intro wq hSw
    try dsimp only at hSw
    go_simp
    try with_reducible rfl
  simp only [Act.put, List.setIfInBounds_toArray, List.set_cons_zero, List.set_cons_succ]
  refine wpAnyH_take (i := 8) (v := ?_) rfl (by kernel_rfl) (by kernel_rfl) (by kernel_rfl) (fun _ _ _ h => h) (Or.inl ⟨by rfl, ?_⟩) (by assumption) ?_
  rotate_left
  · intro wq hSw
    try dsimp only at hSw
    go_simp
    try with_reducible rfl
  simp only [Act.put, List.setIfInBounds_toArray, List.set_cons_zero, List.set_cons_succ]
  refine wpAnyH_ready (rs := [9]) (by kernel_rfl) (by simp) (AllReadyH.cons rfl (fun K hK => ?_) AllReadyH.nil)
  go_simp
  refine hK.out _ _ (HS.out _ (((Below.refl _ _).alloc (Nat.le_refl _) _).drew)) (fun hHeld2 => ?_)
  clear hK K hHeld
  have hHeld := hHeld2
  clear hHeld2
  try simp only [Act.put, List.setIfInBounds_toArray, List.set_cons_zero, List.set_cons_succ]
  refine wpAnyH_ready (rs := [10]) (by kernel_rfl) (by simp) (AllReadyH.cons rfl (fun K hK => ?_) AllReadyH.nil)
  go_simp
  refine hK.out _ _ (HS.out _ (below_setRow (((Below.refl _ _).alloc (Nat.le_refl _) _).drew) (Nat.le_refl _) _)) (fun hHeld2 => ?_)
  clear hK K hHeld
  have hHeld := hHeld2
  clear hHeld2
  try simp only [Act.put, List.setIfInBounds_toArray, List.set_cons_zero, List.set_cons_succ]
  clear hHeld
  refine wpAnyH_done (by kernel_rfl) ?_ _
  clear hst
  go_upto_region 7 with fail
  refine wp_setRow (show ((W0.alloc (.cells _ 29)).drew).heap[W0.heap.size]? = some (.cells _ 29 (0, 0)) from blk_new W0 _) ?_
  intro W1 hb1 hk1 hsz1
  have hbe1 : Below W0.heap.size W0 W1 := (((Below.refl _ _).alloc (Nat.le_refl _) (.cells _ 29)).drew).trans (hk1.below (by simp) (fun i h => by omega))
  have HB1 := hide (blk_below HB0.out hbe1 (by have := HSZ0.out; omega))
  have HBX1 := hide hb1
  have HBE1 := hide hbe1
  have hcy : csy.length = 40 := by have := HCL.out; simpa using this
  have HCY := hide hcy
  clear hb1 hk1 hsz1 hbe1 hcy HS
  go_upto_region 8 with (first
    | refine wpList_load_row rfl 29 _ rfl w.heap.size rfl 29 _ (0, 0) _ HB1.out Try.underlying29 rfl HCS.out ?_
    | (go_at_call 52
       refine (own_any y csy _ _ (Kind.below HKY.out (HBEL.out.trans (HBE1.out.mono HBEL.out.size))) HSY.out).mono ?_
       rintro e w2 ⟨cs2, rfl, q1, q2⟩
       obtain ⟨u2, v2, rfl, hu2, hv2⟩ := id q1
       have HU2 := hide hu2
       have HQ1 := hide q1
       have HQ2 := hide q2
       have HB2 := hide (blk_below HB1.out q2 (blk_lt HB1.out))
       have HBX2 := hide (blk_below HBX1.out q2 (blk_lt HBX1.out))
       clear q1 q2 hu2 hv2)
    | refine wpList_store_row rfl 29 _ _ rfl w.heap.size (y.cells u2 v2).toArray rfl rfl 29 _ HB2.out (by rw [size_env]; rfl) (by rw [HCL.out]; rfl) (all_oneCell_toArray (envK.one HQ1.out)) ?_)
  refine wp_setRow HB2.out ?_
  intro W3 hb3 hk3 hsz3
  have hne : W0.heap.size ≠ w.heap.size := by have := HSZ0.out; omega
  have hbx3 := blk_kept HBX2.out hk3 hne
  have hbe3 : Below w.heap.size w W3 := ((HBEL.out.trans (HBE1.out.mono HBEL.out.size)).trans (HQ2.out.mono (Nat.le_trans HBEL.out.size HBE1.out.size))).trans (hk3.below (Nat.le_trans HBEL.out.size (Nat.le_trans HBE1.out.size HQ2.out.size)) (fun i h => by omega))
  have hS8 : ∀ W : World, W.heap[W0.heap.size]? = W3.heap[W0.heap.size]? → (fun w' : World => w'.cell? ⟨W0.heap.size, 35, none⟩ = some vx ∧ w'.cell? ⟨W0.heap.size, 36, none⟩ = some (.int .i64 x.before) ∧ w'.cell? ⟨W0.heap.size, 37, none⟩ = some (.int .i64 x.after) ∧ w'.cell? ⟨W0.heap.size, 38, none⟩ = some (.bool x.joined)) W := fun W hW => by
    have hbw := hW.trans hbx3
    refine ⟨?_, ?_, ?_, ?_⟩ <;> rw [blk_cell hbw] <;> rfl
  have y35 : W3.cell? ⟨w.heap.size, 35, none⟩ = some v2 := by rw [blk_cell hb3]; rfl
  have y36 : W3.cell? ⟨w.heap.size, 36, none⟩ = some (.int .i64 y.before) := by rw [blk_cell hb3]; rfl
  have y37 : W3.cell? ⟨w.heap.size, 37, none⟩ = some (.int .i64 y.after) := by rw [blk_cell hb3]; rfl
  have y38 : W3.cell? ⟨w.heap.size, 38, none⟩ = some (.bool y.joined) := by rw [blk_cell hb3]; rfl
  have f35 : W3.frozen? ⟨w.heap.size, 35, none⟩ = false := blk_frozen hb3
  have f36 : W3.frozen? ⟨w.heap.size, 36, none⟩ = false := blk_frozen hb3
  have f37 : W3.frozen? ⟨w.heap.size, 37, none⟩ = false := blk_frozen hb3
  have f38 : W3.frozen? ⟨w.heap.size, 38, none⟩ = false := blk_frozen hb3
  have HS8 := hide hS8
  have HB3 := hide hb3
  have HBE3 := hide hbe3
  have hu3 : stopK.Sl W3 (fun k => w.heap.size < k) u2 y.stops := Kind.Sl.step (HU2.out.weaken (ok' := fun k => w.heap.size < k) (fun k hk => by have := HBEL.out.size; have := HBE1.out.size; have := HSZ0.out; omega)) (fun k hk hk2 => hk3.block k hk2 (by omega))
  have HU3 := hide hu3
  have HNE := hide hne
  have hvo : vx.oneCell' = true := HVX.out.one
  obtain ⟨Ax, cx, hvxe, -, -, -⟩ := id HVX.out
  rw [hvxe] at HS8 hvo
  have HVE := hide hvxe
  clear hb3 hk3 hsz3 hbx3 hbe3 hS8 hu3 hvxe
  go_region_held3 (fun w' => w'.cell? ⟨W0.heap.size, 35, none⟩ = some (.slice Ax x.row.length cx) ∧ w'.cell? ⟨W0.heap.size, 36, none⟩ = some (.int .i64 x.before) ∧ w'.cell? ⟨W0.heap.size, 37, none⟩ = some (.int .i64 x.after) ∧ w'.cell? ⟨W0.heap.size, 38, none⟩ = some (.bool x.joined))
    (first
      | exact HS8.out _ rfl
      | exact HS8.out _ (Below.heap_setCell _ _ _ _ HNE.out)
      | exact HS8.out _ ((Below.heap_setCell _ _ _ _ HNE.out).trans (Below.heap_setCell _ _ _ _ HNE.out))
      | exact HS8.out _ ((Below.heap_setCell _ _ _ _ HNE.out).trans ((Below.heap_setCell _ _ _ _ HNE.out).trans (Below.heap_setCell _ _ _ _ HNE.out)))
      | exact HS8.out _ ((Below.heap_setCell _ _ _ _ HNE.out).trans ((Below.heap_setCell _ _ _ _ HNE.out).trans ((Below.heap_setCell _ _ _ _ HNE.out).trans (Below.heap_setCell _ _ _ _ HNE.out)))))
    (fail)
  clear y35 y36 y37 y38 f35 f36 f37 f38
  go_upto_region 9 with fail
  refine wp_gen (fun W : World => W.heap[w.heap.size]? = some (.cells ((takeT y x).cells u2 (.slice Ax x.row.length cx)).toArray 29 (0, 0)) ∧ Kept (fun k => k = w.heap.size) W3 W) ⟨?_, ?_⟩ ?_
  · have hbb := blk_set (blk_set (blk_set (blk_set HB3.out 35 (.slice Ax x.row.length cx)) 36 (.int .i64 x.before)) 37 (.int .i64 x.after)) 38 (.bool x.joined)
    rw [take_cells] at hbb
    exact hbb
  · exact (((((Kept.refl (fun k => k = w.heap.size) W3).setCell (p := ⟨w.heap.size, 35, none⟩) (.inl rfl) _).setCell (p := ⟨w.heap.size, 36, none⟩) (.inl rfl) _).setCell (p := ⟨w.heap.size, 37, none⟩) (.inl rfl) _).setCell (p := ⟨w.heap.size, 38, none⟩) (.inl rfl) _).drew
  rintro W4 ⟨hb4, hk4⟩
  have hbe4 : Below w.heap.size w W4 := HBE3.out.trans (hk4.below HBE3.out.size (fun i h => by omega))
  have hst4 : stopK.Sl W4 (fun k => w.heap.size < k) u2 y.stops := HU3.out.step (fun k hk hk2 => hk4.block k hk2 (by omega))
  have hvx := HVX.out
  rw [HVE.out] at hvx
  have hrow4 : boxK.Sl W4 (fun k => ¬ (Mut g b sv k ∨ X k)) (.slice Ax x.row.length cx) x.row := hvx.step (fun k _ hk2 => hbe4.block k hk2)
  have hK4 : envK.K W4 (fun k => ¬ (Mut g b sv k ∨ X k)) (takeT y x) ((takeT y x).cells u2 (.slice Ax x.row.length cx)) := ⟨_, _, rfl, hst4.weaken (fun k hk hm => by rcases hm with hm | hm; have := H.out.mut_lt k hm; omega; have := H.out.xlt k hm; omega), hrow4⟩
  obtain ⟨w5, hrun, m3, m4⟩ := (HV1.out.below (hbe4.drew)).put (s := now) (by have := HNS.out; omega) (by have := H.out.most; omega) (.agg ((takeT y x).cells u2 (.slice Ax x.row.length cx)).toArray)
  have hb4d : W4.drew.heap[w.heap.size]? = some (.cells ((takeT y x).cells u2 (.slice Ax x.row.length cx)).toArray 29 (0, 0)) := hb4
  have hg4 := (H.out.below (hbe4.drew)).blk
  have HS9 := hide (show (fun w' => w'.cell? ⟨g, 0, none⟩ = some (.map (some b)) ∧ w'.cell? ⟨g, 1, none⟩ = some (.string now) ∧ w'.heap[w.heap.size]? = some (.cells ((takeT y x).cells u2 (.slice Ax x.row.length cx)).toArray 29 (0, 0))) W4.drew from ⟨by rw [blk_cell hg4]; rfl, by rw [blk_cell hg4]; rfl, hb4d⟩)
  have hbl : b < w.heap.size := HBW.out
  have hb5 := blk_grown hb4d m4 (fun e => by have := Option.some.inj e; omega)
  have hg5 := blk_grown hg4 m4 (fun e => H.out.gb (Option.some.inj e))
  have HS10 := hide (show (fun w' => w'.cell? ⟨g, 0, none⟩ = some (.map (some b)) ∧ w'.cell? ⟨g, 1, none⟩ = some (.string now) ∧ w'.heap[w.heap.size]? = some (.cells ((takeT y x).cells u2 (.slice Ax x.row.length cx)).toArray 29 (0, 0))) w5 from ⟨by rw [blk_cell hg5]; rfl, by rw [blk_cell hg5]; rfl, hb5⟩)
  have HBE4 := hide hbe4
  have HK4 := hide hK4
  have M3 := hide m3
  have M4 := hide m4
  have HRUN := hide hrun
  clear hb4 hk4 hbe4 hst4 hvx hrow4 hK4 hrun m3 m4 hb4d hg4 hbl hb5 hg5
  refine wp_region_held_drew (S := (fun w' => w'.cell? ⟨g, 0, none⟩ = some (.map (some b)) ∧ w'.cell? ⟨g, 1, none⟩ = some (.string now) ∧ w'.heap[w.heap.size]? = some (.cells ((takeT y x).cells u2 (.slice Ax x.row.length cx)).toArray 29 (0, 0)))) (by kernel_rfl) HS9.out (fun hHeld => ?_)
  refine wpAnyH_take (i := 0) (v := ?_) rfl (by kernel_rfl) (by kernel_rfl) (by kernel_rfl) (fun _ _ _ h => h) (Or.inl ⟨by rfl, ?_⟩) (by assumption) ?_
  rotate_left
  · intro wq hSw
    try dsimp only at hSw
    go_simp
    try with_reducible rfl
  simp only [Act.put, List.setIfInBounds_toArray, List.set_cons_zero, List.set_cons_succ]
  refine wpAnyH_take (i := 1) (v := ?_) rfl (by kernel_rfl) (by kernel_rfl) (by kernel_rfl) (fun _ _ _ h => h) (Or.inl ⟨by rfl, ?_⟩) (by assumption) ?_
  rotate_left
  · intro wq hSw
    try dsimp only at hSw
    go_simp
    try with_reducible rfl
  simp only [Act.put, List.setIfInBounds_toArray, List.set_cons_zero, List.set_cons_succ]
  refine wpAnyH_take (i := 2) (v := ?_) rfl (by kernel_rfl) (by kernel_rfl) (by kernel_rfl) (fun _ _ _ h => h) (Or.inl ⟨by rfl, ?_⟩) (by assumption) ?_
  rotate_left
  · intro wq hSw
    try dsimp only at hSw
    go_simp
    try with_reducible rfl
  simp only [Act.put, List.setIfInBounds_toArray, List.set_cons_zero, List.set_cons_succ]
  refine wpAnyH_take (i := 3) (v := ?_) rfl (by kernel_rfl) (by kernel_rfl) (by kernel_rfl) (fun _ _ _ h => h) (Or.inl ⟨by rfl, ?_⟩) (by assumption) ?_
  rotate_left
  · intro wq hSw
    try dsimp only at hSw
    go_simp
    try with_reducible rfl
  simp only [Act.put, List.setIfInBounds_toArray, List.set_cons_zero, List.set_cons_succ]
  refine wpAnyH_take (i := 4) (v := ?_) rfl (by kernel_rfl) (by kernel_rfl) (by kernel_rfl) (fun _ _ _ h => h) (Or.inl ⟨by rfl, ?_⟩) (by assumption) ?_
  rotate_left
  · intro wq hSw
    try dsimp only at hSw
    go_simp
    try with_reducible rfl
  simp only [Act.put, List.setIfInBounds_toArray, List.set_cons_zero, List.set_cons_succ]
  refine wpAnyH_take (i := 5) (v := ?_) rfl (by kernel_rfl) (by kernel_rfl) (by kernel_rfl) (fun _ _ _ h => h) (Or.inl ⟨by rfl, ?_⟩) (by assumption) ?_
  rotate_left
  · intro wq hSw
    try dsimp only at hSw
    go_simp
    try with_reducible rfl
  simp only [Act.put, List.setIfInBounds_toArray, List.set_cons_zero, List.set_cons_succ]
  refine wpAnyH_take (i := 6) (v := ?_) rfl (by kernel_rfl) (by kernel_rfl) (by kernel_rfl) (fun _ _ _ h => h) (Or.inl ⟨by rfl, ?_⟩) (by assumption) ?_
  rotate_left
  · intro wq hSw
    try dsimp only at hSw
    go_simp
    try with_reducible rfl
  simp only [Act.put, List.setIfInBounds_toArray, List.set_cons_zero, List.set_cons_succ]
  refine wpAnyH_take (i := 7) (v := ?_) rfl (by kernel_rfl) (by kernel_rfl) (by kernel_rfl) (fun _ _ _ h => h) (Or.inl ⟨by rfl, ?_⟩) (by assumption) ?_
  rotate_left
  · intro wq hSw
    try dsimp only at hSw
    go_simp
    try with_reducible rfl
  simp only [Act.put, List.setIfInBounds_toArray, List.set_cons_zero, List.set_cons_succ]
  refine wpAnyH_take (i := 8) (v := .agg ((takeT y x).cells u2 (.slice Ax x.row.length cx)).toArray) rfl (by kernel_rfl) (by kernel_rfl) (by kernel_rfl) (fun _ _ _ h => h) (yieldsIf_load_row (by rfl) 29 _ rfl w.heap.size (by go_simp) 29 ((takeT y x).cells u2 (.slice Ax x.row.length cx)).toArray (0, 0) _ (fun w' h => h.2.2) Try.underlying29 rfl (by rw [size_env]; rfl)) (by assumption) ?_
  simp only [Act.put, List.setIfInBounds_toArray, List.set_cons_zero, List.set_cons_succ]
  have hrun := HRUN.out
  refine wpAnyH_ready (rs := [9]) (by kernel_rfl) (by simp) (AllReadyH.cons rfl (fun K hK => ?_) AllReadyH.nil)
  go_simp
  refine hK.out _ _ HS10.out (fun hHeld2 => ?_)
  clear hK K hHeld
  have hHeld := hHeld2
  clear hHeld2
  try simp only [Act.put, List.setIfInBounds_toArray, List.set_cons_zero, List.set_cons_succ]
  clear hrun
  clear hHeld
  refine wpAnyH_done (by kernel_rfl) ?_ _
  go_wp2_with fail
  go_ret
  have hvs : (V now).isSome = true := by
    obtain ⟨cs0, h1, -⟩ := (HV2.out now).2 _ HX.out
    rw [h1]; rfl
  have hk : Kept (fun k => k = b) w w5 := (Kept.of_below (S := fun k => k = b) HBE4.out.drew).trans (Kept.of_grown M4.out) (fun _ _ h => h) (fun i _ h => (Option.some.inj h).symm)
  have hm4 := M3.out
  rw [hvs, if_pos rfl] at hm4
  have hK5 : envK.K w5 (fun k => ¬ (Mut g b sv k ∨ X k)) (takeT y x) ((takeT y x).cells u2 (.slice Ax x.row.length cx)) := Kind.step (w := W4.drew) (envK.move (fun k _ => rfl) HK4.out) (fun k hk1 hk2 => M4.out.block k hk2 (fun e => hk1 (.inl (.inr (.inl (Option.some.inj e))))))
  exact ⟨rfl, H.out.set hk HV2.out hm4 hK5 (take_small HSY.out HSX.out) HNS.out H.out.most, hk⟩
end Go.Proofs.Ytekkjieoikgpmaa
