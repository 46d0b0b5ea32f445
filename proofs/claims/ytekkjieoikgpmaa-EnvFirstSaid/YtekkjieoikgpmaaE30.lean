/- changed of chapter 16: the cases that set numbers, flags and texts. -/
import Derived.Test.YtekkjieoikgpmaaE2
set_option linter.unusedVariables false
set_option linter.unusedSimpArgs false
namespace Go.Proofs.Ytekkjieoikgpmaa
open Go.RowKit
set_option maxHeartbeats 3200000
set_option maxRecDepth 1000000

/-- Cells of a row are set one after the other. -/
def setAll (cs : Array Value) : List (Nat × Value) → Array Value
  | [] => cs
  | (i, v) :: r => setAll (cs.setIfInBounds i v) r
theorem set_blk {P : Program} {c : Code} {Q : Exit → Act → World → Prop} {a : Act} {g : Nat} {cs : Array Value} {t : TypeId} {W0 : World} (hb : W0.heap[g]? = some (.cells cs t (0, 0))) (l : List (Nat × Value)) (cs' : Array Value) (he : setAll cs l = cs')
    (h : ∀ W, W.heap[g]? = some (.cells cs' t (0, 0)) → Kept (fun k => k = g) W0 W → c.wp P Q a W) : c.wp P Q a (l.foldl (fun w p => w.setCell ⟨g, p.1, none⟩ p.2) W0) := by
  have key : ∀ (l : List (Nat × Value)) (cs : Array Value) (W1 : World), W1.heap[g]? = some (.cells cs t (0, 0)) → Kept (fun k => k = g) W0 W1 → (l.foldl (fun w p => w.setCell ⟨g, p.1, none⟩ p.2) W1).heap[g]? = some (.cells (setAll cs l) t (0, 0)) ∧ Kept (fun k => k = g) W0 (l.foldl (fun w p => w.setCell ⟨g, p.1, none⟩ p.2) W1) := by
    intro l
    induction l with
    | nil => exact fun cs W1 h1 h2 => ⟨h1, h2⟩
    | cons p r ih => exact fun cs W1 h1 h2 => ih _ _ (blk_set h1 p.1 p.2) (h2.setCell (p := ⟨g, p.1, none⟩) (.inl rfl) p.2)
  obtain ⟨h1, h2⟩ := key l cs W0 hb (Kept.refl _ _)
  rw [he] at h1
  exact h _ h1 h2
/-- How the number is read. -/
structure Pick (n : Int) (k z : Nat) (j : Int) : Prop where
  k_ : (IntKind.u64.wrap n).tmod 100000 = (k : Int)
  z_ : (k : Int).tdiv 20 = (z : Int)
  j_ : (k : Int).tmod 20 = j
  lt : k < 100000
  zl : z < 5000
theorem pick_any (n : Int) : ∃ (k z j : Nat), Pick n k z j ∧ j < 20 := by
  have h0 : 0 ≤ IntKind.u64.wrap n := by rw [IntKind.wrap_u64]; omega
  obtain ⟨k, hk⟩ : ∃ k : Nat, (IntKind.u64.wrap n).tmod 100000 = (k : Int) := ⟨((IntKind.u64.wrap n).tmod 100000).toNat, by rw [Int.tmod_eq_emod_of_nonneg h0]; omega⟩
  have hk2 : k < 100000 := by rw [Int.tmod_eq_emod_of_nonneg h0] at hk; omega
  refine ⟨k, k / 20, k % 20, ⟨hk, by rw [Int.tdiv_eq_ediv_of_nonneg (by omega)]; omega, by rw [Int.tmod_eq_emod_of_nonneg (by omega)]; omega, hk2, by omega⟩, by omega⟩
/-- What a case of changed is asked to do: u and v are the stops' and the row's slices. -/
def ChangedTo (n : Int) (x y : EnvT) : Prop := ∀ (ok : Nat → Prop) (w : World) (cs : List Value), envK.K w ok x cs → Calls Try.prog 21 #[.agg cs.toArray, .int .i64 n] w fun e w' => ∃ cs', e = .returned (.agg cs'.toArray) ∧ envK.K w' (fun k => ok k ∨ w.heap.size ≤ k) y cs' ∧ Below w.heap.size w w'
/-- What comes out. -/
theorem changed_end {w W : World} {y : EnvT} {u v : Value} {ok : Nat → Prop} {cs : Array Value} (h1 : stopK.Sl w ok u y.stops) (h2 : boxK.Sl w ok v y.row) (hb : Below w.heap.size w W) (hc : cs = (y.cells u v).toArray) :
    ∃ cs', Ending.returned (Value.agg cs) = .returned (.agg cs'.toArray) ∧ envK.K (W.setRow (w.heap.size + 1) cs) (fun k => ok k ∨ w.heap.size ≤ k) y cs' ∧ Below w.heap.size w (W.setRow (w.heap.size + 1) cs) := by
  subst hc
  have hst : ∀ k, (ok k ∧ k < w.heap.size) → (W.setRow (w.heap.size + 1) (y.cells u v).toArray).heap[k]? = w.heap[k]? := fun k hk => (setRow_other W _ k _ (by omega)).trans (hb.block k hk.2)
  exact ⟨_, rfl, ⟨u, v, rfl, (h1.bound.step (fun k hk _ => hst k hk)).weaken (fun k hk => .inl hk.1), (h2.bound.step (fun k hk _ => hst k hk)).weaken (fun k hk => .inl hk.1)⟩, below_setRow hb (by omega) _⟩
theorem changed_0 (n : Int) (k z : Nat) (x : EnvT) (hp : Pick n k z 0) : ChangedTo n x { x with font := (z : Int).tmod 5, lastFont := x.font } := by
  rintro ok w cs ⟨u, v, rfl, hu, hv⟩
  have HU := hide hu
  have HV := hide hv
  obtain ⟨hk, hz, hj, hlt, hzl⟩ := hp
  have b5 : 0 ≤ (z : Int).tmod 5 ∧ (z : Int).tmod 5 < 5 := by rw [Int.tmod_eq_emod_of_nonneg (by omega)]; omega
  obtain ⟨b5a, b5b⟩ := b5
  clear hu hv
  go_enter Try.func21, Try.ntmps21
  go_upto_region 1 with fail
  refine wp_two ?_
  intro W0 hb1 hb2 hbel hsz
  have d0 : W0.cell? ⟨w.heap.size, 0, none⟩ = some (.int .i64 x.font) := by rw [blk_cell hb1]; rfl
  have d1 : W0.cell? ⟨w.heap.size, 1, none⟩ = some (.int .i64 x.lastFont) := by rw [blk_cell hb1]; rfl
  have zf : ∀ i, W0.frozen? ⟨w.heap.size, i, none⟩ = false := fun i => blk_frozen hb1
  have hs0 := blk_set hb1 0 (.int .i64 ((z : Int).tmod 5))
  have e0_1 : (W0.setCell ⟨w.heap.size, 0, none⟩ (.int .i64 ((z : Int).tmod 5))).cell? ⟨w.heap.size, 1, none⟩ = some (.int .i64 x.lastFont) := by rw [blk_cell hs0]; rfl
  have f0_1 : (W0.setCell ⟨w.heap.size, 0, none⟩ (.int .i64 ((z : Int).tmod 5))).frozen? ⟨w.heap.size, 1, none⟩ = false := blk_frozen hs0
  have g0 := zf 0
  have g1 := zf 1
  have HB1 := hide hb1
  have HB2 := hide hb2
  have HBEL := hide hbel
  clear hb1 hb2 hbel zf hs0
  go_upto_region 44 with fail
  refine set_blk HB1.out [(0, .int .i64 ((z : Int).tmod 5)), (1, .int .i64 x.font)] ({ x with font := (z : Int).tmod 5, lastFont := x.font }.cells u v).toArray rfl ?_
  intro W3 hb3 hk3
  have hbw : Below w.heap.size w W3 := HBEL.out.trans (hk3.below HBEL.out.size (fun i h => by omega))
  have hu3 := HU.out.below hbw
  have hv3 := HV.out.below hbw
  have HB3 := hide hb3
  have HB4 := hide (blk_kept HB2.out hk3 (by omega))
  have HU3 := hide hu3
  have HV3 := hide hv3
  have HBW := hide hbw
  clear hb3 hk3 hu3 hv3 hbw
  go_wp2_with (first
    | refine wpList_load_row rfl 29 _ rfl w.heap.size rfl 29 _ (0, 0) _ HB3.out Try.underlying29 rfl size_env ?_
    | refine wpList_store_row rfl 29 _ _ rfl (w.heap.size + 1) _ rfl rfl 29 _ HB4.out size_env rfl (env_one { x with font := (z : Int).tmod 5, lastFont := x.font } HU3.out.one HV3.out.one) ?_)
  refine bodyPost_ret (results_cell_row rfl _ _ (w.heap.size + 1) 29 _ (0, 0) _ rfl (setRow_heap _ _ _ _ _ _ HB4.out) Try.underlying29 rfl size_env) rfl ?_
  exact changed_end (y := { x with font := (z : Int).tmod 5, lastFont := x.font }) (u := u) (v := v) HU.out HV.out HBW.out rfl
theorem changed_1 (n : Int) (k z : Nat) (x : EnvT) (hp : Pick n k z 1) : ChangedTo n x { x with size := 1 + (z : Int).tmod 40, lastSize := x.size } := by
  rintro ok w cs ⟨u, v, rfl, hu, hv⟩
  have HU := hide hu
  have HV := hide hv
  obtain ⟨hk, hz, hj, hlt, hzl⟩ := hp
  have b40 : 0 ≤ (z : Int).tmod 40 ∧ (z : Int).tmod 40 < 40 := by rw [Int.tmod_eq_emod_of_nonneg (by omega)]; omega
  obtain ⟨b40a, b40b⟩ := b40
  clear hu hv
  go_enter Try.func21, Try.ntmps21
  go_upto_region 1 with fail
  refine wp_two ?_
  intro W0 hb1 hb2 hbel hsz
  have d2 : W0.cell? ⟨w.heap.size, 2, none⟩ = some (.int .i64 x.size) := by rw [blk_cell hb1]; rfl
  have d3 : W0.cell? ⟨w.heap.size, 3, none⟩ = some (.int .i64 x.lastSize) := by rw [blk_cell hb1]; rfl
  have zf : ∀ i, W0.frozen? ⟨w.heap.size, i, none⟩ = false := fun i => blk_frozen hb1
  have hs0 := blk_set hb1 2 (.int .i64 (1 + (z : Int).tmod 40))
  have e0_3 : (W0.setCell ⟨w.heap.size, 2, none⟩ (.int .i64 (1 + (z : Int).tmod 40))).cell? ⟨w.heap.size, 3, none⟩ = some (.int .i64 x.lastSize) := by rw [blk_cell hs0]; rfl
  have f0_3 : (W0.setCell ⟨w.heap.size, 2, none⟩ (.int .i64 (1 + (z : Int).tmod 40))).frozen? ⟨w.heap.size, 3, none⟩ = false := blk_frozen hs0
  have g2 := zf 2
  have g3 := zf 3
  have HB1 := hide hb1
  have HB2 := hide hb2
  have HBEL := hide hbel
  clear hb1 hb2 hbel zf hs0
  go_upto_region 44 with fail
  refine set_blk HB1.out [(2, .int .i64 (1 + (z : Int).tmod 40)), (3, .int .i64 x.size)] ({ x with size := 1 + (z : Int).tmod 40, lastSize := x.size }.cells u v).toArray rfl ?_
  intro W3 hb3 hk3
  have hbw : Below w.heap.size w W3 := HBEL.out.trans (hk3.below HBEL.out.size (fun i h => by omega))
  have hu3 := HU.out.below hbw
  have hv3 := HV.out.below hbw
  have HB3 := hide hb3
  have HB4 := hide (blk_kept HB2.out hk3 (by omega))
  have HU3 := hide hu3
  have HV3 := hide hv3
  have HBW := hide hbw
  clear hb3 hk3 hu3 hv3 hbw
  go_wp2_with (first
    | refine wpList_load_row rfl 29 _ rfl w.heap.size rfl 29 _ (0, 0) _ HB3.out Try.underlying29 rfl size_env ?_
    | refine wpList_store_row rfl 29 _ _ rfl (w.heap.size + 1) _ rfl rfl 29 _ HB4.out size_env rfl (env_one { x with size := 1 + (z : Int).tmod 40, lastSize := x.size } HU3.out.one HV3.out.one) ?_)
  refine bodyPost_ret (results_cell_row rfl _ _ (w.heap.size + 1) 29 _ (0, 0) _ rfl (setRow_heap _ _ _ _ _ _ HB4.out) Try.underlying29 rfl size_env) rfl ?_
  exact changed_end (y := { x with size := 1 + (z : Int).tmod 40, lastSize := x.size }) (u := u) (v := v) HU.out HV.out HBW.out rfl
theorem changed_2 (n : Int) (k z : Nat) (x : EnvT) (hp : Pick n k z 2) : ChangedTo n x { x with vs := z } := by
  rintro ok w cs ⟨u, v, rfl, hu, hv⟩
  have HU := hide hu
  have HV := hide hv
  obtain ⟨hk, hz, hj, hlt, hzl⟩ := hp
  clear hu hv
  go_enter Try.func21, Try.ntmps21
  go_upto_region 1 with fail
  refine wp_two ?_
  intro W0 hb1 hb2 hbel hsz
  have d4 : W0.cell? ⟨w.heap.size, 4, none⟩ = some (.int .i64 x.vs) := by rw [blk_cell hb1]; rfl
  have zf : ∀ i, W0.frozen? ⟨w.heap.size, i, none⟩ = false := fun i => blk_frozen hb1
  have g4 := zf 4
  have HB1 := hide hb1
  have HB2 := hide hb2
  have HBEL := hide hbel
  clear hb1 hb2 hbel zf
  go_upto_region 44 with fail
  refine set_blk HB1.out [(4, .int .i64 z)] ({ x with vs := z }.cells u v).toArray rfl ?_
  intro W3 hb3 hk3
  have hbw : Below w.heap.size w W3 := HBEL.out.trans (hk3.below HBEL.out.size (fun i h => by omega))
  have hu3 := HU.out.below hbw
  have hv3 := HV.out.below hbw
  have HB3 := hide hb3
  have HB4 := hide (blk_kept HB2.out hk3 (by omega))
  have HU3 := hide hu3
  have HV3 := hide hv3
  have HBW := hide hbw
  clear hb3 hk3 hu3 hv3 hbw
  go_wp2_with (first
    | refine wpList_load_row rfl 29 _ rfl w.heap.size rfl 29 _ (0, 0) _ HB3.out Try.underlying29 rfl size_env ?_
    | refine wpList_store_row rfl 29 _ _ rfl (w.heap.size + 1) _ rfl rfl 29 _ HB4.out size_env rfl (env_one { x with vs := z } HU3.out.one HV3.out.one) ?_)
  refine bodyPost_ret (results_cell_row rfl _ _ (w.heap.size + 1) 29 _ (0, 0) _ rfl (setRow_heap _ _ _ _ _ _ HB4.out) Try.underlying29 rfl size_env) rfl ?_
  exact changed_end (y := { x with vs := z }) (u := u) (v := v) HU.out HV.out HBW.out rfl
theorem changed_3 (n : Int) (k z : Nat) (x : EnvT) (hp : Pick n k z 3) : ChangedTo n x { x with length := z } := by
  rintro ok w cs ⟨u, v, rfl, hu, hv⟩
  have HU := hide hu
  have HV := hide hv
  obtain ⟨hk, hz, hj, hlt, hzl⟩ := hp
  clear hu hv
  go_enter Try.func21, Try.ntmps21
  go_upto_region 1 with fail
  refine wp_two ?_
  intro W0 hb1 hb2 hbel hsz
  have d6 : W0.cell? ⟨w.heap.size, 6, none⟩ = some (.int .i64 x.length) := by rw [blk_cell hb1]; rfl
  have zf : ∀ i, W0.frozen? ⟨w.heap.size, i, none⟩ = false := fun i => blk_frozen hb1
  have g6 := zf 6
  have HB1 := hide hb1
  have HB2 := hide hb2
  have HBEL := hide hbel
  clear hb1 hb2 hbel zf
  go_upto_region 44 with fail
  refine set_blk HB1.out [(6, .int .i64 z)] ({ x with length := z }.cells u v).toArray rfl ?_
  intro W3 hb3 hk3
  have hbw : Below w.heap.size w W3 := HBEL.out.trans (hk3.below HBEL.out.size (fun i h => by omega))
  have hu3 := HU.out.below hbw
  have hv3 := HV.out.below hbw
  have HB3 := hide hb3
  have HB4 := hide (blk_kept HB2.out hk3 (by omega))
  have HU3 := hide hu3
  have HV3 := hide hv3
  have HBW := hide hbw
  clear hb3 hk3 hu3 hv3 hbw
  go_wp2_with (first
    | refine wpList_load_row rfl 29 _ rfl w.heap.size rfl 29 _ (0, 0) _ HB3.out Try.underlying29 rfl size_env ?_
    | refine wpList_store_row rfl 29 _ _ rfl (w.heap.size + 1) _ rfl rfl 29 _ HB4.out size_env rfl (env_one { x with length := z } HU3.out.one HV3.out.one) ?_)
  refine bodyPost_ret (results_cell_row rfl _ _ (w.heap.size + 1) 29 _ (0, 0) _ rfl (setRow_heap _ _ _ _ _ _ HB4.out) Try.underlying29 rfl size_env) rfl ?_
  exact changed_end (y := { x with length := z }) (u := u) (v := v) HU.out HV.out HBW.out rfl
theorem changed_4 (n : Int) (k z : Nat) (x : EnvT) (hp : Pick n k z 4) : ChangedTo n x { x with indent := (z : Int).tmod 500, temp := (z : Int).tmod 300 - 1 } := by
  rintro ok w cs ⟨u, v, rfl, hu, hv⟩
  have HU := hide hu
  have HV := hide hv
  obtain ⟨hk, hz, hj, hlt, hzl⟩ := hp
  have b300 : 0 ≤ (z : Int).tmod 300 ∧ (z : Int).tmod 300 < 300 := by rw [Int.tmod_eq_emod_of_nonneg (by omega)]; omega
  obtain ⟨b300a, b300b⟩ := b300
  have b500 : 0 ≤ (z : Int).tmod 500 ∧ (z : Int).tmod 500 < 500 := by rw [Int.tmod_eq_emod_of_nonneg (by omega)]; omega
  obtain ⟨b500a, b500b⟩ := b500
  clear hu hv
  go_enter Try.func21, Try.ntmps21
  go_upto_region 1 with fail
  refine wp_two ?_
  intro W0 hb1 hb2 hbel hsz
  have d8 : W0.cell? ⟨w.heap.size, 8, none⟩ = some (.int .i64 x.indent) := by rw [blk_cell hb1]; rfl
  have d9 : W0.cell? ⟨w.heap.size, 9, none⟩ = some (.int .i64 x.temp) := by rw [blk_cell hb1]; rfl
  have zf : ∀ i, W0.frozen? ⟨w.heap.size, i, none⟩ = false := fun i => blk_frozen hb1
  have hs0 := blk_set hb1 8 (.int .i64 ((z : Int).tmod 500))
  have e0_9 : (W0.setCell ⟨w.heap.size, 8, none⟩ (.int .i64 ((z : Int).tmod 500))).cell? ⟨w.heap.size, 9, none⟩ = some (.int .i64 x.temp) := by rw [blk_cell hs0]; rfl
  have f0_9 : (W0.setCell ⟨w.heap.size, 8, none⟩ (.int .i64 ((z : Int).tmod 500))).frozen? ⟨w.heap.size, 9, none⟩ = false := blk_frozen hs0
  have g8 := zf 8
  have g9 := zf 9
  have HB1 := hide hb1
  have HB2 := hide hb2
  have HBEL := hide hbel
  clear hb1 hb2 hbel zf hs0
  go_upto_region 44 with fail
  refine set_blk HB1.out [(8, .int .i64 ((z : Int).tmod 500)), (9, .int .i64 ((z : Int).tmod 300 - 1))] ({ x with indent := (z : Int).tmod 500, temp := (z : Int).tmod 300 - 1 }.cells u v).toArray rfl ?_
  intro W3 hb3 hk3
  have hbw : Below w.heap.size w W3 := HBEL.out.trans (hk3.below HBEL.out.size (fun i h => by omega))
  have hu3 := HU.out.below hbw
  have hv3 := HV.out.below hbw
  have HB3 := hide hb3
  have HB4 := hide (blk_kept HB2.out hk3 (by omega))
  have HU3 := hide hu3
  have HV3 := hide hv3
  have HBW := hide hbw
  clear hb3 hk3 hu3 hv3 hbw
  go_wp2_with (first
    | refine wpList_load_row rfl 29 _ rfl w.heap.size rfl 29 _ (0, 0) _ HB3.out Try.underlying29 rfl size_env ?_
    | refine wpList_store_row rfl 29 _ _ rfl (w.heap.size + 1) _ rfl rfl 29 _ HB4.out size_env rfl (env_one { x with indent := (z : Int).tmod 500, temp := (z : Int).tmod 300 - 1 } HU3.out.one HV3.out.one) ?_)
  refine bodyPost_ret (results_cell_row rfl _ _ (w.heap.size + 1) 29 _ (0, 0) _ rfl (setRow_heap _ _ _ _ _ _ HB4.out) Try.underlying29 rfl size_env) rfl ?_
  exact changed_end (y := { x with indent := (z : Int).tmod 500, temp := (z : Int).tmod 300 - 1 }) (u := u) (v := v) HU.out HV.out HBW.out rfl
theorem changed_5 (n : Int) (k z : Nat) (x : EnvT) (hp : Pick n k z 5) : ChangedTo n x { x with fill := (z : Int).tmod 2 == 0, adjust := (z : Int).tmod 3 == 0 } := by
  rintro ok w cs ⟨u, v, rfl, hu, hv⟩
  have HU := hide hu
  have HV := hide hv
  obtain ⟨hk, hz, hj, hlt, hzl⟩ := hp
  have b2 : 0 ≤ (z : Int).tmod 2 ∧ (z : Int).tmod 2 < 2 := by rw [Int.tmod_eq_emod_of_nonneg (by omega)]; omega
  obtain ⟨b2a, b2b⟩ := b2
  have b3 : 0 ≤ (z : Int).tmod 3 ∧ (z : Int).tmod 3 < 3 := by rw [Int.tmod_eq_emod_of_nonneg (by omega)]; omega
  obtain ⟨b3a, b3b⟩ := b3
  clear hu hv
  go_enter Try.func21, Try.ntmps21
  go_upto_region 1 with fail
  refine wp_two ?_
  intro W0 hb1 hb2 hbel hsz
  have d10 : W0.cell? ⟨w.heap.size, 10, none⟩ = some (.bool x.fill) := by rw [blk_cell hb1]; rfl
  have d11 : W0.cell? ⟨w.heap.size, 11, none⟩ = some (.bool x.adjust) := by rw [blk_cell hb1]; rfl
  have zf : ∀ i, W0.frozen? ⟨w.heap.size, i, none⟩ = false := fun i => blk_frozen hb1
  have hs0 := blk_set hb1 10 (.bool ((z : Int).tmod 2 == 0))
  have e0_11 : (W0.setCell ⟨w.heap.size, 10, none⟩ (.bool ((z : Int).tmod 2 == 0))).cell? ⟨w.heap.size, 11, none⟩ = some (.bool x.adjust) := by rw [blk_cell hs0]; rfl
  have f0_11 : (W0.setCell ⟨w.heap.size, 10, none⟩ (.bool ((z : Int).tmod 2 == 0))).frozen? ⟨w.heap.size, 11, none⟩ = false := blk_frozen hs0
  have g10 := zf 10
  have g11 := zf 11
  have HB1 := hide hb1
  have HB2 := hide hb2
  have HBEL := hide hbel
  clear hb1 hb2 hbel zf hs0
  go_upto_region 44 with fail
  refine set_blk HB1.out [(10, .bool ((z : Int).tmod 2 == 0)), (11, .bool ((z : Int).tmod 3 == 0))] ({ x with fill := (z : Int).tmod 2 == 0, adjust := (z : Int).tmod 3 == 0 }.cells u v).toArray rfl ?_
  intro W3 hb3 hk3
  have hbw : Below w.heap.size w W3 := HBEL.out.trans (hk3.below HBEL.out.size (fun i h => by omega))
  have hu3 := HU.out.below hbw
  have hv3 := HV.out.below hbw
  have HB3 := hide hb3
  have HB4 := hide (blk_kept HB2.out hk3 (by omega))
  have HU3 := hide hu3
  have HV3 := hide hv3
  have HBW := hide hbw
  clear hb3 hk3 hu3 hv3 hbw
  go_wp2_with (first
    | refine wpList_load_row rfl 29 _ rfl w.heap.size rfl 29 _ (0, 0) _ HB3.out Try.underlying29 rfl size_env ?_
    | refine wpList_store_row rfl 29 _ _ rfl (w.heap.size + 1) _ rfl rfl 29 _ HB4.out size_env rfl (env_one { x with fill := (z : Int).tmod 2 == 0, adjust := (z : Int).tmod 3 == 0 } HU3.out.one HV3.out.one) ?_)
  refine bodyPost_ret (results_cell_row rfl _ _ (w.heap.size + 1) 29 _ (0, 0) _ rfl (setRow_heap _ _ _ _ _ _ HB4.out) Try.underlying29 rfl size_env) rfl ?_
  exact changed_end (y := { x with fill := (z : Int).tmod 2 == 0, adjust := (z : Int).tmod 3 == 0 }) (u := u) (v := v) HU.out HV.out HBW.out rfl
theorem changed_7 (n : Int) (k z : Nat) (x : EnvT) (hp : Pick n k z 7) : ChangedTo n x { x with centre := (z : Int).tmod 9, under := (z : Int).tmod 7 } := by
  rintro ok w cs ⟨u, v, rfl, hu, hv⟩
  have HU := hide hu
  have HV := hide hv
  obtain ⟨hk, hz, hj, hlt, hzl⟩ := hp
  have b7 : 0 ≤ (z : Int).tmod 7 ∧ (z : Int).tmod 7 < 7 := by rw [Int.tmod_eq_emod_of_nonneg (by omega)]; omega
  obtain ⟨b7a, b7b⟩ := b7
  have b9 : 0 ≤ (z : Int).tmod 9 ∧ (z : Int).tmod 9 < 9 := by rw [Int.tmod_eq_emod_of_nonneg (by omega)]; omega
  obtain ⟨b9a, b9b⟩ := b9
  clear hu hv
  go_enter Try.func21, Try.ntmps21
  go_upto_region 1 with fail
  refine wp_two ?_
  intro W0 hb1 hb2 hbel hsz
  have d16 : W0.cell? ⟨w.heap.size, 16, none⟩ = some (.int .i64 x.centre) := by rw [blk_cell hb1]; rfl
  have d17 : W0.cell? ⟨w.heap.size, 17, none⟩ = some (.int .i64 x.under) := by rw [blk_cell hb1]; rfl
  have zf : ∀ i, W0.frozen? ⟨w.heap.size, i, none⟩ = false := fun i => blk_frozen hb1
  have hs0 := blk_set hb1 16 (.int .i64 ((z : Int).tmod 9))
  have e0_17 : (W0.setCell ⟨w.heap.size, 16, none⟩ (.int .i64 ((z : Int).tmod 9))).cell? ⟨w.heap.size, 17, none⟩ = some (.int .i64 x.under) := by rw [blk_cell hs0]; rfl
  have f0_17 : (W0.setCell ⟨w.heap.size, 16, none⟩ (.int .i64 ((z : Int).tmod 9))).frozen? ⟨w.heap.size, 17, none⟩ = false := blk_frozen hs0
  have g16 := zf 16
  have g17 := zf 17
  have HB1 := hide hb1
  have HB2 := hide hb2
  have HBEL := hide hbel
  clear hb1 hb2 hbel zf hs0
  go_upto_region 44 with fail
  refine set_blk HB1.out [(16, .int .i64 ((z : Int).tmod 9)), (17, .int .i64 ((z : Int).tmod 7))] ({ x with centre := (z : Int).tmod 9, under := (z : Int).tmod 7 }.cells u v).toArray rfl ?_
  intro W3 hb3 hk3
  have hbw : Below w.heap.size w W3 := HBEL.out.trans (hk3.below HBEL.out.size (fun i h => by omega))
  have hu3 := HU.out.below hbw
  have hv3 := HV.out.below hbw
  have HB3 := hide hb3
  have HB4 := hide (blk_kept HB2.out hk3 (by omega))
  have HU3 := hide hu3
  have HV3 := hide hv3
  have HBW := hide hbw
  clear hb3 hk3 hu3 hv3 hbw
  go_wp2_with (first
    | refine wpList_load_row rfl 29 _ rfl w.heap.size rfl 29 _ (0, 0) _ HB3.out Try.underlying29 rfl size_env ?_
    | refine wpList_store_row rfl 29 _ _ rfl (w.heap.size + 1) _ rfl rfl 29 _ HB4.out size_env rfl (env_one { x with centre := (z : Int).tmod 9, under := (z : Int).tmod 7 } HU3.out.one HV3.out.one) ?_)
  refine bodyPost_ret (results_cell_row rfl _ _ (w.heap.size + 1) 29 _ (0, 0) _ rfl (setRow_heap _ _ _ _ _ _ HB4.out) Try.underlying29 rfl size_env) rfl ?_
  exact changed_end (y := { x with centre := (z : Int).tmod 9, under := (z : Int).tmod 7 }) (u := u) (v := v) HU.out HV.out HBW.out rfl
theorem changed_9 (n : Int) (k z : Nat) (x : EnvT) (hp : Pick n k z 9) : ChangedTo n x { x with on := (z : Int).tmod 2 == 0, next := z } := by
  rintro ok w cs ⟨u, v, rfl, hu, hv⟩
  have HU := hide hu
  have HV := hide hv
  obtain ⟨hk, hz, hj, hlt, hzl⟩ := hp
  have b2 : 0 ≤ (z : Int).tmod 2 ∧ (z : Int).tmod 2 < 2 := by rw [Int.tmod_eq_emod_of_nonneg (by omega)]; omega
  obtain ⟨b2a, b2b⟩ := b2
  clear hu hv
  go_enter Try.func21, Try.ntmps21
  go_upto_region 1 with fail
  refine wp_two ?_
  intro W0 hb1 hb2 hbel hsz
  have d29 : W0.cell? ⟨w.heap.size, 29, none⟩ = some (.bool x.on) := by rw [blk_cell hb1]; rfl
  have d30 : W0.cell? ⟨w.heap.size, 30, none⟩ = some (.int .i64 x.next) := by rw [blk_cell hb1]; rfl
  have zf : ∀ i, W0.frozen? ⟨w.heap.size, i, none⟩ = false := fun i => blk_frozen hb1
  have hs0 := blk_set hb1 29 (.bool ((z : Int).tmod 2 == 0))
  have e0_30 : (W0.setCell ⟨w.heap.size, 29, none⟩ (.bool ((z : Int).tmod 2 == 0))).cell? ⟨w.heap.size, 30, none⟩ = some (.int .i64 x.next) := by rw [blk_cell hs0]; rfl
  have f0_30 : (W0.setCell ⟨w.heap.size, 29, none⟩ (.bool ((z : Int).tmod 2 == 0))).frozen? ⟨w.heap.size, 30, none⟩ = false := blk_frozen hs0
  have g29 := zf 29
  have g30 := zf 30
  have HB1 := hide hb1
  have HB2 := hide hb2
  have HBEL := hide hbel
  clear hb1 hb2 hbel zf hs0
  go_upto_region 44 with fail
  refine set_blk HB1.out [(29, .bool ((z : Int).tmod 2 == 0)), (30, .int .i64 z)] ({ x with on := (z : Int).tmod 2 == 0, next := z }.cells u v).toArray rfl ?_
  intro W3 hb3 hk3
  have hbw : Below w.heap.size w W3 := HBEL.out.trans (hk3.below HBEL.out.size (fun i h => by omega))
  have hu3 := HU.out.below hbw
  have hv3 := HV.out.below hbw
  have HB3 := hide hb3
  have HB4 := hide (blk_kept HB2.out hk3 (by omega))
  have HU3 := hide hu3
  have HV3 := hide hv3
  have HBW := hide hbw
  clear hb3 hk3 hu3 hv3 hbw
  go_wp2_with (first
    | refine wpList_load_row rfl 29 _ rfl w.heap.size rfl 29 _ (0, 0) _ HB3.out Try.underlying29 rfl size_env ?_
    | refine wpList_store_row rfl 29 _ _ rfl (w.heap.size + 1) _ rfl rfl 29 _ HB4.out size_env rfl (env_one { x with on := (z : Int).tmod 2 == 0, next := z } HU3.out.one HV3.out.one) ?_)
  refine bodyPost_ret (results_cell_row rfl _ _ (w.heap.size + 1) 29 _ (0, 0) _ rfl (setRow_heap _ _ _ _ _ _ HB4.out) Try.underlying29 rfl size_env) rfl ?_
  exact changed_end (y := { x with on := (z : Int).tmod 2 == 0, next := z }) (u := u) (v := v) HU.out HV.out HBW.out rfl
theorem changed_11 (n : Int) (k z : Nat) (x : EnvT) (hp : Pick n k z 11) : ChangedTo n x { x with before := (z : Int).tmod 50, after := (z : Int).tmod 30, joined := (z : Int).tmod 2 == 0 } := by
  rintro ok w cs ⟨u, v, rfl, hu, hv⟩
  have HU := hide hu
  have HV := hide hv
  obtain ⟨hk, hz, hj, hlt, hzl⟩ := hp
  have b2 : 0 ≤ (z : Int).tmod 2 ∧ (z : Int).tmod 2 < 2 := by rw [Int.tmod_eq_emod_of_nonneg (by omega)]; omega
  obtain ⟨b2a, b2b⟩ := b2
  have b30 : 0 ≤ (z : Int).tmod 30 ∧ (z : Int).tmod 30 < 30 := by rw [Int.tmod_eq_emod_of_nonneg (by omega)]; omega
  obtain ⟨b30a, b30b⟩ := b30
  have b50 : 0 ≤ (z : Int).tmod 50 ∧ (z : Int).tmod 50 < 50 := by rw [Int.tmod_eq_emod_of_nonneg (by omega)]; omega
  obtain ⟨b50a, b50b⟩ := b50
  clear hu hv
  go_enter Try.func21, Try.ntmps21
  go_upto_region 1 with fail
  refine wp_two ?_
  intro W0 hb1 hb2 hbel hsz
  have d36 : W0.cell? ⟨w.heap.size, 36, none⟩ = some (.int .i64 x.before) := by rw [blk_cell hb1]; rfl
  have d37 : W0.cell? ⟨w.heap.size, 37, none⟩ = some (.int .i64 x.after) := by rw [blk_cell hb1]; rfl
  have d38 : W0.cell? ⟨w.heap.size, 38, none⟩ = some (.bool x.joined) := by rw [blk_cell hb1]; rfl
  have zf : ∀ i, W0.frozen? ⟨w.heap.size, i, none⟩ = false := fun i => blk_frozen hb1
  have hs0 := blk_set hb1 36 (.int .i64 ((z : Int).tmod 50))
  have e0_37 : (W0.setCell ⟨w.heap.size, 36, none⟩ (.int .i64 ((z : Int).tmod 50))).cell? ⟨w.heap.size, 37, none⟩ = some (.int .i64 x.after) := by rw [blk_cell hs0]; rfl
  have f0_37 : (W0.setCell ⟨w.heap.size, 36, none⟩ (.int .i64 ((z : Int).tmod 50))).frozen? ⟨w.heap.size, 37, none⟩ = false := blk_frozen hs0
  have e0_38 : (W0.setCell ⟨w.heap.size, 36, none⟩ (.int .i64 ((z : Int).tmod 50))).cell? ⟨w.heap.size, 38, none⟩ = some (.bool x.joined) := by rw [blk_cell hs0]; rfl
  have f0_38 : (W0.setCell ⟨w.heap.size, 36, none⟩ (.int .i64 ((z : Int).tmod 50))).frozen? ⟨w.heap.size, 38, none⟩ = false := blk_frozen hs0
  have hs1 := blk_set hs0 37 (.int .i64 ((z : Int).tmod 30))
  have e1_38 : ((W0.setCell ⟨w.heap.size, 36, none⟩ (.int .i64 ((z : Int).tmod 50))).setCell ⟨w.heap.size, 37, none⟩ (.int .i64 ((z : Int).tmod 30))).cell? ⟨w.heap.size, 38, none⟩ = some (.bool x.joined) := by rw [blk_cell hs1]; rfl
  have f1_38 : ((W0.setCell ⟨w.heap.size, 36, none⟩ (.int .i64 ((z : Int).tmod 50))).setCell ⟨w.heap.size, 37, none⟩ (.int .i64 ((z : Int).tmod 30))).frozen? ⟨w.heap.size, 38, none⟩ = false := blk_frozen hs1
  have g36 := zf 36
  have g37 := zf 37
  have g38 := zf 38
  have HB1 := hide hb1
  have HB2 := hide hb2
  have HBEL := hide hbel
  clear hb1 hb2 hbel zf hs0 hs1
  go_upto_region 44 with fail
  refine set_blk HB1.out [(36, .int .i64 ((z : Int).tmod 50)), (37, .int .i64 ((z : Int).tmod 30)), (38, .bool ((z : Int).tmod 2 == 0))] ({ x with before := (z : Int).tmod 50, after := (z : Int).tmod 30, joined := (z : Int).tmod 2 == 0 }.cells u v).toArray rfl ?_
  intro W3 hb3 hk3
  have hbw : Below w.heap.size w W3 := HBEL.out.trans (hk3.below HBEL.out.size (fun i h => by omega))
  have hu3 := HU.out.below hbw
  have hv3 := HV.out.below hbw
  have HB3 := hide hb3
  have HB4 := hide (blk_kept HB2.out hk3 (by omega))
  have HU3 := hide hu3
  have HV3 := hide hv3
  have HBW := hide hbw
  clear hb3 hk3 hu3 hv3 hbw
  go_wp2_with (first
    | refine wpList_load_row rfl 29 _ rfl w.heap.size rfl 29 _ (0, 0) _ HB3.out Try.underlying29 rfl size_env ?_
    | refine wpList_store_row rfl 29 _ _ rfl (w.heap.size + 1) _ rfl rfl 29 _ HB4.out size_env rfl (env_one { x with before := (z : Int).tmod 50, after := (z : Int).tmod 30, joined := (z : Int).tmod 2 == 0 } HU3.out.one HV3.out.one) ?_)
  refine bodyPost_ret (results_cell_row rfl _ _ (w.heap.size + 1) 29 _ (0, 0) _ rfl (setRow_heap _ _ _ _ _ _ HB4.out) Try.underlying29 rfl size_env) rfl ?_
  exact changed_end (y := { x with before := (z : Int).tmod 50, after := (z : Int).tmod 30, joined := (z : Int).tmod 2 == 0 }) (u := u) (v := v) HU.out HV.out HBW.out rfl
theorem changed_12 (n : Int) (k z : Nat) (x : EnvT) (hp : Pick n k z 12) : ChangedTo n x { x with colour := ⟨#[114, 101, 100]⟩, lastColour := x.colour } := by
  rintro ok w cs ⟨u, v, rfl, hu, hv⟩
  have HU := hide hu
  have HV := hide hv
  obtain ⟨hk, hz, hj, hlt, hzl⟩ := hp
  clear hu hv
  go_enter Try.func21, Try.ntmps21
  go_upto_region 1 with fail
  refine wp_two ?_
  intro W0 hb1 hb2 hbel hsz
  have d26 : W0.cell? ⟨w.heap.size, 26, none⟩ = some (.string x.colour) := by rw [blk_cell hb1]; rfl
  have d27 : W0.cell? ⟨w.heap.size, 27, none⟩ = some (.string x.lastColour) := by rw [blk_cell hb1]; rfl
  have zf : ∀ i, W0.frozen? ⟨w.heap.size, i, none⟩ = false := fun i => blk_frozen hb1
  have hs0 := blk_set hb1 26 (.string ⟨#[114, 101, 100]⟩)
  have e0_27 : (W0.setCell ⟨w.heap.size, 26, none⟩ (.string ⟨#[114, 101, 100]⟩)).cell? ⟨w.heap.size, 27, none⟩ = some (.string x.lastColour) := by rw [blk_cell hs0]; rfl
  have f0_27 : (W0.setCell ⟨w.heap.size, 26, none⟩ (.string ⟨#[114, 101, 100]⟩)).frozen? ⟨w.heap.size, 27, none⟩ = false := blk_frozen hs0
  have g26 := zf 26
  have g27 := zf 27
  have HB1 := hide hb1
  have HB2 := hide hb2
  have HBEL := hide hbel
  clear hb1 hb2 hbel zf hs0
  go_upto_region 44 with fail
  refine set_blk HB1.out [(26, .string ⟨#[114, 101, 100]⟩), (27, .string x.colour)] ({ x with colour := ⟨#[114, 101, 100]⟩, lastColour := x.colour }.cells u v).toArray rfl ?_
  intro W3 hb3 hk3
  have hbw : Below w.heap.size w W3 := HBEL.out.trans (hk3.below HBEL.out.size (fun i h => by omega))
  have hu3 := HU.out.below hbw
  have hv3 := HV.out.below hbw
  have HB3 := hide hb3
  have HB4 := hide (blk_kept HB2.out hk3 (by omega))
  have HU3 := hide hu3
  have HV3 := hide hv3
  have HBW := hide hbw
  clear hb3 hk3 hu3 hv3 hbw
  go_wp2_with (first
    | refine wpList_load_row rfl 29 _ rfl w.heap.size rfl 29 _ (0, 0) _ HB3.out Try.underlying29 rfl size_env ?_
    | refine wpList_store_row rfl 29 _ _ rfl (w.heap.size + 1) _ rfl rfl 29 _ HB4.out size_env rfl (env_one { x with colour := ⟨#[114, 101, 100]⟩, lastColour := x.colour } HU3.out.one HV3.out.one) ?_)
  refine bodyPost_ret (results_cell_row rfl _ _ (w.heap.size + 1) 29 _ (0, 0) _ rfl (setRow_heap _ _ _ _ _ _ HB4.out) Try.underlying29 rfl size_env) rfl ?_
  exact changed_end (y := { x with colour := ⟨#[114, 101, 100]⟩, lastColour := x.colour }) (u := u) (v := v) HU.out HV.out HBW.out rfl
theorem changed_13 (n : Int) (k z : Nat) (x : EnvT) (hp : Pick n k z 13) : ChangedTo n x { x with tab := ⟨#[]⟩, leader := ⟨#[45]⟩, margin := ⟨#[124]⟩ } := by
  rintro ok w cs ⟨u, v, rfl, hu, hv⟩
  have HU := hide hu
  have HV := hide hv
  obtain ⟨hk, hz, hj, hlt, hzl⟩ := hp
  clear hu hv
  go_enter Try.func21, Try.ntmps21
  go_upto_region 1 with fail
  refine wp_two ?_
  intro W0 hb1 hb2 hbel hsz
  have d23 : W0.cell? ⟨w.heap.size, 23, none⟩ = some (.string x.tab) := by rw [blk_cell hb1]; rfl
  have d24 : W0.cell? ⟨w.heap.size, 24, none⟩ = some (.string x.leader) := by rw [blk_cell hb1]; rfl
  have d25 : W0.cell? ⟨w.heap.size, 25, none⟩ = some (.string x.margin) := by rw [blk_cell hb1]; rfl
  have zf : ∀ i, W0.frozen? ⟨w.heap.size, i, none⟩ = false := fun i => blk_frozen hb1
  have hs0 := blk_set hb1 23 (.string ⟨#[]⟩)
  have e0_24 : (W0.setCell ⟨w.heap.size, 23, none⟩ (.string ⟨#[]⟩)).cell? ⟨w.heap.size, 24, none⟩ = some (.string x.leader) := by rw [blk_cell hs0]; rfl
  have f0_24 : (W0.setCell ⟨w.heap.size, 23, none⟩ (.string ⟨#[]⟩)).frozen? ⟨w.heap.size, 24, none⟩ = false := blk_frozen hs0
  have e0_25 : (W0.setCell ⟨w.heap.size, 23, none⟩ (.string ⟨#[]⟩)).cell? ⟨w.heap.size, 25, none⟩ = some (.string x.margin) := by rw [blk_cell hs0]; rfl
  have f0_25 : (W0.setCell ⟨w.heap.size, 23, none⟩ (.string ⟨#[]⟩)).frozen? ⟨w.heap.size, 25, none⟩ = false := blk_frozen hs0
  have hs1 := blk_set hs0 24 (.string ⟨#[45]⟩)
  have e1_25 : ((W0.setCell ⟨w.heap.size, 23, none⟩ (.string ⟨#[]⟩)).setCell ⟨w.heap.size, 24, none⟩ (.string ⟨#[45]⟩)).cell? ⟨w.heap.size, 25, none⟩ = some (.string x.margin) := by rw [blk_cell hs1]; rfl
  have f1_25 : ((W0.setCell ⟨w.heap.size, 23, none⟩ (.string ⟨#[]⟩)).setCell ⟨w.heap.size, 24, none⟩ (.string ⟨#[45]⟩)).frozen? ⟨w.heap.size, 25, none⟩ = false := blk_frozen hs1
  have g23 := zf 23
  have g24 := zf 24
  have g25 := zf 25
  have HB1 := hide hb1
  have HB2 := hide hb2
  have HBEL := hide hbel
  clear hb1 hb2 hbel zf hs0 hs1
  go_upto_region 44 with fail
  refine set_blk HB1.out [(23, .string ⟨#[]⟩), (24, .string ⟨#[45]⟩), (25, .string ⟨#[124]⟩)] ({ x with tab := ⟨#[]⟩, leader := ⟨#[45]⟩, margin := ⟨#[124]⟩ }.cells u v).toArray rfl ?_
  intro W3 hb3 hk3
  have hbw : Below w.heap.size w W3 := HBEL.out.trans (hk3.below HBEL.out.size (fun i h => by omega))
  have hu3 := HU.out.below hbw
  have hv3 := HV.out.below hbw
  have HB3 := hide hb3
  have HB4 := hide (blk_kept HB2.out hk3 (by omega))
  have HU3 := hide hu3
  have HV3 := hide hv3
  have HBW := hide hbw
  clear hb3 hk3 hu3 hv3 hbw
  go_wp2_with (first
    | refine wpList_load_row rfl 29 _ rfl w.heap.size rfl 29 _ (0, 0) _ HB3.out Try.underlying29 rfl size_env ?_
    | refine wpList_store_row rfl 29 _ _ rfl (w.heap.size + 1) _ rfl rfl 29 _ HB4.out size_env rfl (env_one { x with tab := ⟨#[]⟩, leader := ⟨#[45]⟩, margin := ⟨#[124]⟩ } HU3.out.one HV3.out.one) ?_)
  refine bodyPost_ret (results_cell_row rfl _ _ (w.heap.size + 1) 29 _ (0, 0) _ rfl (setRow_heap _ _ _ _ _ _ HB4.out) Try.underlying29 rfl size_env) rfl ?_
  exact changed_end (y := { x with tab := ⟨#[]⟩, leader := ⟨#[45]⟩, margin := ⟨#[124]⟩ }) (u := u) (v := v) HU.out HV.out HBW.out rfl
theorem changed_14 (n : Int) (k z : Nat) (x : EnvT) (hp : Pick n k z 14) : ChangedTo n x { x with odd := !x.odd } := by
  rintro ok w cs ⟨u, v, rfl, hu, hv⟩
  have HU := hide hu
  have HV := hide hv
  obtain ⟨hk, hz, hj, hlt, hzl⟩ := hp
  clear hu hv
  go_enter Try.func21, Try.ntmps21
  go_upto_region 1 with fail
  refine wp_two ?_
  intro W0 hb1 hb2 hbel hsz
  have d39 : W0.cell? ⟨w.heap.size, 39, none⟩ = some (.bool x.odd) := by rw [blk_cell hb1]; rfl
  have zf : ∀ i, W0.frozen? ⟨w.heap.size, i, none⟩ = false := fun i => blk_frozen hb1
  have g39 := zf 39
  have HB1 := hide hb1
  have HB2 := hide hb2
  have HBEL := hide hbel
  clear hb1 hb2 hbel zf
  go_upto_region 44 with fail
  refine set_blk HB1.out [(39, .bool (!x.odd))] ({ x with odd := !x.odd }.cells u v).toArray rfl ?_
  intro W3 hb3 hk3
  have hbw : Below w.heap.size w W3 := HBEL.out.trans (hk3.below HBEL.out.size (fun i h => by omega))
  have hu3 := HU.out.below hbw
  have hv3 := HV.out.below hbw
  have HB3 := hide hb3
  have HB4 := hide (blk_kept HB2.out hk3 (by omega))
  have HU3 := hide hu3
  have HV3 := hide hv3
  have HBW := hide hbw
  clear hb3 hk3 hu3 hv3 hbw
  go_wp2_with (first
    | refine wpList_load_row rfl 29 _ rfl w.heap.size rfl 29 _ (0, 0) _ HB3.out Try.underlying29 rfl size_env ?_
    | refine wpList_store_row rfl 29 _ _ rfl (w.heap.size + 1) _ rfl rfl 29 _ HB4.out size_env rfl (env_one { x with odd := !x.odd } HU3.out.one HV3.out.one) ?_)
  refine bodyPost_ret (results_cell_row rfl _ _ (w.heap.size + 1) 29 _ (0, 0) _ rfl (setRow_heap _ _ _ _ _ _ HB4.out) Try.underlying29 rfl size_env) rfl ?_
  exact changed_end (y := { x with odd := !x.odd }) (u := u) (v := v) HU.out HV.out HBW.out rfl
theorem changed_16 (n : Int) (k z : Nat) (x : EnvT) (hp : Pick n k z 16) : ChangedTo n x { x with hyphens := (z : Int).tmod 2 == 0, ligs := (z : Int).tmod 3 == 0, kerns := (z : Int).tmod 5 == 0 } := by
  rintro ok w cs ⟨u, v, rfl, hu, hv⟩
  have HU := hide hu
  have HV := hide hv
  obtain ⟨hk, hz, hj, hlt, hzl⟩ := hp
  have b2 : 0 ≤ (z : Int).tmod 2 ∧ (z : Int).tmod 2 < 2 := by rw [Int.tmod_eq_emod_of_nonneg (by omega)]; omega
  obtain ⟨b2a, b2b⟩ := b2
  have b3 : 0 ≤ (z : Int).tmod 3 ∧ (z : Int).tmod 3 < 3 := by rw [Int.tmod_eq_emod_of_nonneg (by omega)]; omega
  obtain ⟨b3a, b3b⟩ := b3
  have b5 : 0 ≤ (z : Int).tmod 5 ∧ (z : Int).tmod 5 < 5 := by rw [Int.tmod_eq_emod_of_nonneg (by omega)]; omega
  obtain ⟨b5a, b5b⟩ := b5
  clear hu hv
  go_enter Try.func21, Try.ntmps21
  go_upto_region 1 with fail
  refine wp_two ?_
  intro W0 hb1 hb2 hbel hsz
  have d12 : W0.cell? ⟨w.heap.size, 12, none⟩ = some (.bool x.hyphens) := by rw [blk_cell hb1]; rfl
  have d13 : W0.cell? ⟨w.heap.size, 13, none⟩ = some (.bool x.ligs) := by rw [blk_cell hb1]; rfl
  have d14 : W0.cell? ⟨w.heap.size, 14, none⟩ = some (.bool x.kerns) := by rw [blk_cell hb1]; rfl
  have zf : ∀ i, W0.frozen? ⟨w.heap.size, i, none⟩ = false := fun i => blk_frozen hb1
  have hs0 := blk_set hb1 12 (.bool ((z : Int).tmod 2 == 0))
  have e0_13 : (W0.setCell ⟨w.heap.size, 12, none⟩ (.bool ((z : Int).tmod 2 == 0))).cell? ⟨w.heap.size, 13, none⟩ = some (.bool x.ligs) := by rw [blk_cell hs0]; rfl
  have f0_13 : (W0.setCell ⟨w.heap.size, 12, none⟩ (.bool ((z : Int).tmod 2 == 0))).frozen? ⟨w.heap.size, 13, none⟩ = false := blk_frozen hs0
  have e0_14 : (W0.setCell ⟨w.heap.size, 12, none⟩ (.bool ((z : Int).tmod 2 == 0))).cell? ⟨w.heap.size, 14, none⟩ = some (.bool x.kerns) := by rw [blk_cell hs0]; rfl
  have f0_14 : (W0.setCell ⟨w.heap.size, 12, none⟩ (.bool ((z : Int).tmod 2 == 0))).frozen? ⟨w.heap.size, 14, none⟩ = false := blk_frozen hs0
  have hs1 := blk_set hs0 13 (.bool ((z : Int).tmod 3 == 0))
  have e1_14 : ((W0.setCell ⟨w.heap.size, 12, none⟩ (.bool ((z : Int).tmod 2 == 0))).setCell ⟨w.heap.size, 13, none⟩ (.bool ((z : Int).tmod 3 == 0))).cell? ⟨w.heap.size, 14, none⟩ = some (.bool x.kerns) := by rw [blk_cell hs1]; rfl
  have f1_14 : ((W0.setCell ⟨w.heap.size, 12, none⟩ (.bool ((z : Int).tmod 2 == 0))).setCell ⟨w.heap.size, 13, none⟩ (.bool ((z : Int).tmod 3 == 0))).frozen? ⟨w.heap.size, 14, none⟩ = false := blk_frozen hs1
  have g12 := zf 12
  have g13 := zf 13
  have g14 := zf 14
  have HB1 := hide hb1
  have HB2 := hide hb2
  have HBEL := hide hbel
  clear hb1 hb2 hbel zf hs0 hs1
  go_upto_region 44 with fail
  refine set_blk HB1.out [(12, .bool ((z : Int).tmod 2 == 0)), (13, .bool ((z : Int).tmod 3 == 0)), (14, .bool ((z : Int).tmod 5 == 0))] ({ x with hyphens := (z : Int).tmod 2 == 0, ligs := (z : Int).tmod 3 == 0, kerns := (z : Int).tmod 5 == 0 }.cells u v).toArray rfl ?_
  intro W3 hb3 hk3
  have hbw : Below w.heap.size w W3 := HBEL.out.trans (hk3.below HBEL.out.size (fun i h => by omega))
  have hu3 := HU.out.below hbw
  have hv3 := HV.out.below hbw
  have HB3 := hide hb3
  have HB4 := hide (blk_kept HB2.out hk3 (by omega))
  have HU3 := hide hu3
  have HV3 := hide hv3
  have HBW := hide hbw
  clear hb3 hk3 hu3 hv3 hbw
  go_wp2_with (first
    | refine wpList_load_row rfl 29 _ rfl w.heap.size rfl 29 _ (0, 0) _ HB3.out Try.underlying29 rfl size_env ?_
    | refine wpList_store_row rfl 29 _ _ rfl (w.heap.size + 1) _ rfl rfl 29 _ HB4.out size_env rfl (env_one { x with hyphens := (z : Int).tmod 2 == 0, ligs := (z : Int).tmod 3 == 0, kerns := (z : Int).tmod 5 == 0 } HU3.out.one HV3.out.one) ?_)
  refine bodyPost_ret (results_cell_row rfl _ _ (w.heap.size + 1) 29 _ (0, 0) _ rfl (setRow_heap _ _ _ _ _ _ HB4.out) Try.underlying29 rfl size_env) rfl ?_
  exact changed_end (y := { x with hyphens := (z : Int).tmod 2 == 0, ligs := (z : Int).tmod 3 == 0, kerns := (z : Int).tmod 5 == 0 }) (u := u) (v := v) HU.out HV.out HBW.out rfl
theorem changed_17 (n : Int) (k z : Nat) (x : EnvT) (hp : Pick n k z 17) : ChangedTo n x { x with space := (z : Int).tmod 101, sentence := (z : Int).tmod 99, marginAt := z } := by
  rintro ok w cs ⟨u, v, rfl, hu, hv⟩
  have HU := hide hu
  have HV := hide hv
  obtain ⟨hk, hz, hj, hlt, hzl⟩ := hp
  have b101 : 0 ≤ (z : Int).tmod 101 ∧ (z : Int).tmod 101 < 101 := by rw [Int.tmod_eq_emod_of_nonneg (by omega)]; omega
  obtain ⟨b101a, b101b⟩ := b101
  have b99 : 0 ≤ (z : Int).tmod 99 ∧ (z : Int).tmod 99 < 99 := by rw [Int.tmod_eq_emod_of_nonneg (by omega)]; omega
  obtain ⟨b99a, b99b⟩ := b99
  clear hu hv
  go_enter Try.func21, Try.ntmps21
  go_upto_region 1 with fail
  refine wp_two ?_
  intro W0 hb1 hb2 hbel hsz
  have d19 : W0.cell? ⟨w.heap.size, 19, none⟩ = some (.int .i64 x.space) := by rw [blk_cell hb1]; rfl
  have d20 : W0.cell? ⟨w.heap.size, 20, none⟩ = some (.int .i64 x.sentence) := by rw [blk_cell hb1]; rfl
  have d28 : W0.cell? ⟨w.heap.size, 28, none⟩ = some (.int .i64 x.marginAt) := by rw [blk_cell hb1]; rfl
  have zf : ∀ i, W0.frozen? ⟨w.heap.size, i, none⟩ = false := fun i => blk_frozen hb1
  have hs0 := blk_set hb1 19 (.int .i64 ((z : Int).tmod 101))
  have e0_20 : (W0.setCell ⟨w.heap.size, 19, none⟩ (.int .i64 ((z : Int).tmod 101))).cell? ⟨w.heap.size, 20, none⟩ = some (.int .i64 x.sentence) := by rw [blk_cell hs0]; rfl
  have f0_20 : (W0.setCell ⟨w.heap.size, 19, none⟩ (.int .i64 ((z : Int).tmod 101))).frozen? ⟨w.heap.size, 20, none⟩ = false := blk_frozen hs0
  have e0_28 : (W0.setCell ⟨w.heap.size, 19, none⟩ (.int .i64 ((z : Int).tmod 101))).cell? ⟨w.heap.size, 28, none⟩ = some (.int .i64 x.marginAt) := by rw [blk_cell hs0]; rfl
  have f0_28 : (W0.setCell ⟨w.heap.size, 19, none⟩ (.int .i64 ((z : Int).tmod 101))).frozen? ⟨w.heap.size, 28, none⟩ = false := blk_frozen hs0
  have hs1 := blk_set hs0 20 (.int .i64 ((z : Int).tmod 99))
  have e1_28 : ((W0.setCell ⟨w.heap.size, 19, none⟩ (.int .i64 ((z : Int).tmod 101))).setCell ⟨w.heap.size, 20, none⟩ (.int .i64 ((z : Int).tmod 99))).cell? ⟨w.heap.size, 28, none⟩ = some (.int .i64 x.marginAt) := by rw [blk_cell hs1]; rfl
  have f1_28 : ((W0.setCell ⟨w.heap.size, 19, none⟩ (.int .i64 ((z : Int).tmod 101))).setCell ⟨w.heap.size, 20, none⟩ (.int .i64 ((z : Int).tmod 99))).frozen? ⟨w.heap.size, 28, none⟩ = false := blk_frozen hs1
  have g19 := zf 19
  have g20 := zf 20
  have g28 := zf 28
  have HB1 := hide hb1
  have HB2 := hide hb2
  have HBEL := hide hbel
  clear hb1 hb2 hbel zf hs0 hs1
  go_upto_region 44 with fail
  refine set_blk HB1.out [(19, .int .i64 ((z : Int).tmod 101)), (20, .int .i64 ((z : Int).tmod 99)), (28, .int .i64 z)] ({ x with space := (z : Int).tmod 101, sentence := (z : Int).tmod 99, marginAt := z }.cells u v).toArray rfl ?_
  intro W3 hb3 hk3
  have hbw : Below w.heap.size w W3 := HBEL.out.trans (hk3.below HBEL.out.size (fun i h => by omega))
  have hu3 := HU.out.below hbw
  have hv3 := HV.out.below hbw
  have HB3 := hide hb3
  have HB4 := hide (blk_kept HB2.out hk3 (by omega))
  have HU3 := hide hu3
  have HV3 := hide hv3
  have HBW := hide hbw
  clear hb3 hk3 hu3 hv3 hbw
  go_wp2_with (first
    | refine wpList_load_row rfl 29 _ rfl w.heap.size rfl 29 _ (0, 0) _ HB3.out Try.underlying29 rfl size_env ?_
    | refine wpList_store_row rfl 29 _ _ rfl (w.heap.size + 1) _ rfl rfl 29 _ HB4.out size_env rfl (env_one { x with space := (z : Int).tmod 101, sentence := (z : Int).tmod 99, marginAt := z } HU3.out.one HV3.out.one) ?_)
  refine bodyPost_ret (results_cell_row rfl _ _ (w.heap.size + 1) 29 _ (0, 0) _ rfl (setRow_heap _ _ _ _ _ _ HB4.out) Try.underlying29 rfl size_env) rfl ?_
  exact changed_end (y := { x with space := (z : Int).tmod 101, sentence := (z : Int).tmod 99, marginAt := z }) (u := u) (v := v) HU.out HV.out HBW.out rfl
theorem changed_18 (n : Int) (k z : Nat) (x : EnvT) (hp : Pick n k z 18) : ChangedTo n x { x with ls := 1 + (z : Int).tmod 100, title := z, cross := (z : Int).tmod 5 } := by
  rintro ok w cs ⟨u, v, rfl, hu, hv⟩
  have HU := hide hu
  have HV := hide hv
  obtain ⟨hk, hz, hj, hlt, hzl⟩ := hp
  have b100 : 0 ≤ (z : Int).tmod 100 ∧ (z : Int).tmod 100 < 100 := by rw [Int.tmod_eq_emod_of_nonneg (by omega)]; omega
  obtain ⟨b100a, b100b⟩ := b100
  have b5 : 0 ≤ (z : Int).tmod 5 ∧ (z : Int).tmod 5 < 5 := by rw [Int.tmod_eq_emod_of_nonneg (by omega)]; omega
  obtain ⟨b5a, b5b⟩ := b5
  clear hu hv
  go_enter Try.func21, Try.ntmps21
  go_upto_region 1 with fail
  refine wp_two ?_
  intro W0 hb1 hb2 hbel hsz
  have d5 : W0.cell? ⟨w.heap.size, 5, none⟩ = some (.int .i64 x.ls) := by rw [blk_cell hb1]; rfl
  have d7 : W0.cell? ⟨w.heap.size, 7, none⟩ = some (.int .i64 x.title) := by rw [blk_cell hb1]; rfl
  have d18 : W0.cell? ⟨w.heap.size, 18, none⟩ = some (.int .i64 x.cross) := by rw [blk_cell hb1]; rfl
  have zf : ∀ i, W0.frozen? ⟨w.heap.size, i, none⟩ = false := fun i => blk_frozen hb1
  have hs0 := blk_set hb1 5 (.int .i64 (1 + (z : Int).tmod 100))
  have e0_7 : (W0.setCell ⟨w.heap.size, 5, none⟩ (.int .i64 (1 + (z : Int).tmod 100))).cell? ⟨w.heap.size, 7, none⟩ = some (.int .i64 x.title) := by rw [blk_cell hs0]; rfl
  have f0_7 : (W0.setCell ⟨w.heap.size, 5, none⟩ (.int .i64 (1 + (z : Int).tmod 100))).frozen? ⟨w.heap.size, 7, none⟩ = false := blk_frozen hs0
  have e0_18 : (W0.setCell ⟨w.heap.size, 5, none⟩ (.int .i64 (1 + (z : Int).tmod 100))).cell? ⟨w.heap.size, 18, none⟩ = some (.int .i64 x.cross) := by rw [blk_cell hs0]; rfl
  have f0_18 : (W0.setCell ⟨w.heap.size, 5, none⟩ (.int .i64 (1 + (z : Int).tmod 100))).frozen? ⟨w.heap.size, 18, none⟩ = false := blk_frozen hs0
  have hs1 := blk_set hs0 7 (.int .i64 z)
  have e1_18 : ((W0.setCell ⟨w.heap.size, 5, none⟩ (.int .i64 (1 + (z : Int).tmod 100))).setCell ⟨w.heap.size, 7, none⟩ (.int .i64 z)).cell? ⟨w.heap.size, 18, none⟩ = some (.int .i64 x.cross) := by rw [blk_cell hs1]; rfl
  have f1_18 : ((W0.setCell ⟨w.heap.size, 5, none⟩ (.int .i64 (1 + (z : Int).tmod 100))).setCell ⟨w.heap.size, 7, none⟩ (.int .i64 z)).frozen? ⟨w.heap.size, 18, none⟩ = false := blk_frozen hs1
  have g5 := zf 5
  have g7 := zf 7
  have g18 := zf 18
  have HB1 := hide hb1
  have HB2 := hide hb2
  have HBEL := hide hbel
  clear hb1 hb2 hbel zf hs0 hs1
  go_upto_region 44 with fail
  refine set_blk HB1.out [(5, .int .i64 (1 + (z : Int).tmod 100)), (7, .int .i64 z), (18, .int .i64 ((z : Int).tmod 5))] ({ x with ls := 1 + (z : Int).tmod 100, title := z, cross := (z : Int).tmod 5 }.cells u v).toArray rfl ?_
  intro W3 hb3 hk3
  have hbw : Below w.heap.size w W3 := HBEL.out.trans (hk3.below HBEL.out.size (fun i h => by omega))
  have hu3 := HU.out.below hbw
  have hv3 := HV.out.below hbw
  have HB3 := hide hb3
  have HB4 := hide (blk_kept HB2.out hk3 (by omega))
  have HU3 := hide hu3
  have HV3 := hide hv3
  have HBW := hide hbw
  clear hb3 hk3 hu3 hv3 hbw
  go_wp2_with (first
    | refine wpList_load_row rfl 29 _ rfl w.heap.size rfl 29 _ (0, 0) _ HB3.out Try.underlying29 rfl size_env ?_
    | refine wpList_store_row rfl 29 _ _ rfl (w.heap.size + 1) _ rfl rfl 29 _ HB4.out size_env rfl (env_one { x with ls := 1 + (z : Int).tmod 100, title := z, cross := (z : Int).tmod 5 } HU3.out.one HV3.out.one) ?_)
  refine bodyPost_ret (results_cell_row rfl _ _ (w.heap.size + 1) 29 _ (0, 0) _ rfl (setRow_heap _ _ _ _ _ _ HB4.out) Try.underlying29 rfl size_env) rfl ?_
  exact changed_end (y := { x with ls := 1 + (z : Int).tmod 100, title := z, cross := (z : Int).tmod 5 }) (u := u) (v := v) HU.out HV.out HBW.out rfl
theorem changed_19 (n : Int) (k z : Nat) (x : EnvT) (hp : Pick n k z 19) : ChangedTo n x { x with size := -(z : Int) } := by
  rintro ok w cs ⟨u, v, rfl, hu, hv⟩
  have HU := hide hu
  have HV := hide hv
  obtain ⟨hk, hz, hj, hlt, hzl⟩ := hp
  clear hu hv
  go_enter Try.func21, Try.ntmps21
  go_upto_region 1 with fail
  refine wp_two ?_
  intro W0 hb1 hb2 hbel hsz
  have d2 : W0.cell? ⟨w.heap.size, 2, none⟩ = some (.int .i64 x.size) := by rw [blk_cell hb1]; rfl
  have zf : ∀ i, W0.frozen? ⟨w.heap.size, i, none⟩ = false := fun i => blk_frozen hb1
  have g2 := zf 2
  have HB1 := hide hb1
  have HB2 := hide hb2
  have HBEL := hide hbel
  clear hb1 hb2 hbel zf
  go_upto_region 44 with fail
  refine set_blk HB1.out [(2, .int .i64 (-(z : Int)))] ({ x with size := -(z : Int) }.cells u v).toArray rfl ?_
  intro W3 hb3 hk3
  have hbw : Below w.heap.size w W3 := HBEL.out.trans (hk3.below HBEL.out.size (fun i h => by omega))
  have hu3 := HU.out.below hbw
  have hv3 := HV.out.below hbw
  have HB3 := hide hb3
  have HB4 := hide (blk_kept HB2.out hk3 (by omega))
  have HU3 := hide hu3
  have HV3 := hide hv3
  have HBW := hide hbw
  clear hb3 hk3 hu3 hv3 hbw
  go_wp2_with (first
    | refine wpList_load_row rfl 29 _ rfl w.heap.size rfl 29 _ (0, 0) _ HB3.out Try.underlying29 rfl size_env ?_
    | refine wpList_store_row rfl 29 _ _ rfl (w.heap.size + 1) _ rfl rfl 29 _ HB4.out size_env rfl (env_one { x with size := -(z : Int) } HU3.out.one HV3.out.one) ?_)
  refine bodyPost_ret (results_cell_row rfl _ _ (w.heap.size + 1) 29 _ (0, 0) _ rfl (setRow_heap _ _ _ _ _ _ HB4.out) Try.underlying29 rfl size_env) rfl ?_
  exact changed_end (y := { x with size := -(z : Int) }) (u := u) (v := v) HU.out HV.out HBW.out rfl
end Go.Proofs.Ytekkjieoikgpmaa
