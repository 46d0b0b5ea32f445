/- changed of chapter 16: the mode; the numbers. -/
import Derived.Test.YtekkjieoikgpmaaE30
set_option linter.unusedVariables false
set_option linter.unusedSimpArgs false
namespace Go.Proofs.Ytekkjieoikgpmaa
open Go.RowKit
set_option maxHeartbeats 3200000
set_option maxRecDepth 1000000
theorem umod (n m : Int) (hm : 0 < m) : ∃ k : Nat, (IntKind.u64.wrap n).tmod m = (k : Int) ∧ (k : Int) < m := by
  have h0 : 0 ≤ IntKind.u64.wrap n := by rw [IntKind.wrap_u64]; omega
  have h1 := Int.emod_nonneg (IntKind.u64.wrap n) (show m ≠ 0 by omega)
  have h2 := Int.emod_lt_of_pos (IntKind.u64.wrap n) hm
  refine ⟨((IntKind.u64.wrap n).tmod m).toNat, ?_, ?_⟩ <;> (rw [Int.tmod_eq_emod_of_nonneg h0]; omega)
/-- The cells of numbers. -/
def numC2 (on : Bool) (a b c d f : Int) : List Value := [.bool on, .int .i64 a, .int .i64 b, .int .i64 c, .int .i64 d, .int .i64 f]
theorem size_num2 : (Try.prog.info? 26).map (·.size) = some 6 := by kernel_rfl
theorem two_new (w : World) (o o' : Obj) : ((w.alloc o).alloc o').heap[w.heap.size + 1]? = some o' := by
  have h := blk_new (w.alloc o) o'
  simpa using h
theorem made14_any (on : Bool) (a b c d f : Int) : ∃ a' b' c' d' f' : Int, ∀ w : World, Calls Try.prog 56 #[.agg (numC2 on a b c d f).toArray] w fun e w' => e = .returned (.agg (numC2 on a' b' c' d' f').toArray) ∧ Below w.heap.size w w' := by
  obtain ⟨a', ha, ha2⟩ := umod a 1000001 (by omega)
  obtain ⟨b', hb, hb2⟩ := umod b 1000 (by omega)
  obtain ⟨c', hc, hc2⟩ := umod c 101 (by omega)
  obtain ⟨d', hd, hd2⟩ := umod d 101 (by omega)
  obtain ⟨f', hf, hf2⟩ := umod f 1001 (by omega)
  refine ⟨a', 1 + b', c', d', f', fun w => ?_⟩
  unfold numC2
  go_enter Try.func56, Try.ntmps56
  go_wp2_with fail
  refine bodyPost_ret (results_cell_row rfl _ _ (w.heap.size + 1) 26 _ (0, 0) _ rfl (two_new _ _ _) Try.underlying26 rfl size_num2) rfl ?_
  exact ⟨rfl, ((Below.refl _ _).alloc (Nat.le_refl _) _).alloc (by simp) _⟩
/-- A run of cells of a row is set. -/
theorem setc_blk {P : Program} {c : Code} {Q : Exit → Act → World → Prop} {a : Act} {g : Nat} {cs : Array Value} {t : TypeId} {W0 : World} (hb : W0.heap[g]? = some (.cells cs t (0, 0))) (o : Nat) (vs : List Value) (cs' : Array Value) (hl : o + vs.length ≤ cs.size) (he : (cs.toList.take o ++ vs ++ cs.toList.drop (o + vs.length)).toArray = cs')
    (h : ∀ W, W.heap[g]? = some (.cells cs' t (0, 0)) → Kept (fun k => k = g) W0 W → c.wp P Q a W) : c.wp P Q a (W0.setCells g o vs) := by
  have h1 := setCells_blk g t (0, 0) vs o W0 cs hb hl
  rw [he] at h1
  exact h _ h1 ((Kept.of_grown (setCells_grown g vs o W0)).mono (fun i _ h => (Option.some.inj h).symm))
theorem rng_num {w : World} {b : Nat} {x : EnvT} {u v : Value} (hb : w.heap[b]? = some (.cells (x.cells u v).toArray 29 (0, 0))) : w.rangeAt b 29 (numC2 x.on x.next x.nevery x.nspace x.nindent x.nskip) := World.rangeAt_of_block hb 29 6
theorem there_blk {w : World} {b : Nat} {cs : Array Value} {t : TypeId} (hb : w.heap[b]? = some (.cells cs t (0, 0))) (o n : Nat) (hn : o + n ≤ cs.size) : w.there b o n := fun j hj => ⟨by rw [blk_cell hb, Array.getElem?_eq_getElem (by omega)]; rfl, blk_frozen hb⟩
theorem num_one (on : Bool) (a b c d f : Int) : (numC2 on a b c d f).toArray.all (·.oneCell') = true := by
  refine all_oneCell_toArray ?_
  simp only [numC2, List.forall_mem_cons]
  exact ⟨rfl, rfl, rfl, rfl, rfl, rfl, fun _ h => by cases h⟩
theorem changed_15 (n : Int) (k z : Nat) (x : EnvT) (hp : Pick n k z 15) : ∃ a b c d f : Int, ChangedTo n x { x with next := a, nevery := b, nspace := c, nindent := d, nskip := f } := by
  obtain ⟨a, b, c, d, f, HM⟩ := made14_any x.on x.next x.nevery x.nspace x.nindent x.nskip
  have HM := hide HM
  refine ⟨a, b, c, d, f, ?_⟩
  rintro ok w cs ⟨u, v, rfl, hu, hv⟩
  have HU := hide hu
  have HV := hide hv
  obtain ⟨hk, hz, hj, hlt, hzl⟩ := hp
  clear hu hv
  go_enter Try.func21, Try.ntmps21
  go_upto_region 1 with fail
  refine wp_two ?_
  intro W0 hb1 hb2 hbel hsz
  have HB1 := hide hb1
  have HB2 := hide hb2
  have HBEL := hide hbel
  clear hb1 hb2 hbel
  go_upto_region 44 with (first
    | refine wpList_load_mid rfl 26 _ rfl w.heap.size 29 rfl _ _ (rng_num HB1.out) Try.underlying26 rfl size_num2 ?_
    | (go_at_call 56
       refine (HM.out _).mono ?_
       rintro e w2 ⟨rfl, q⟩
       have HB3 := hide (blk_below HB1.out q (blk_lt HB1.out))
       have HB4 := hide (blk_below HB2.out q (blk_lt HB2.out))
       have HBQ := hide (HBEL.out.trans (q.mono HBEL.out.size))
       clear q)
    | refine wpList_store_mid rfl 26 _ _ rfl w.heap.size 29 (numC2 x.on a b c d f).toArray rfl rfl (there_blk HB3.out 29 6 (by show 29 + 6 ≤ 40; omega)) size_num2 (num_one _ _ _ _ _ _) ?_)
  refine setc_blk HB3.out 29 (numC2 x.on a b c d f) ({ x with next := a, nevery := b, nspace := c, nindent := d, nskip := f }.cells u v).toArray (by show 29 + 6 ≤ 40; omega) rfl ?_
  intro W3 hb3 hk3
  have hbw : Below w.heap.size w W3 := HBQ.out.trans (hk3.below HBQ.out.size (fun i h => by omega))
  have hu3 := HU.out.below hbw
  have hv3 := HV.out.below hbw
  have HB5 := hide hb3
  have HB6 := hide (blk_kept HB4.out hk3 (by omega))
  have HU3 := hide hu3
  have HV3 := hide hv3
  have HBW := hide hbw
  clear hb3 hk3 hu3 hv3 hbw
  go_wp2_with (first
    | refine wpList_load_row rfl 29 _ rfl w.heap.size rfl 29 _ (0, 0) _ HB5.out Try.underlying29 rfl size_env ?_
    | refine wpList_store_row rfl 29 _ _ rfl (w.heap.size + 1) _ rfl rfl 29 _ HB6.out size_env rfl (env_one { x with next := a, nevery := b, nspace := c, nindent := d, nskip := f } HU3.out.one HV3.out.one) ?_)
  refine bodyPost_ret (results_cell_row rfl _ _ (w.heap.size + 1) 29 _ (0, 0) _ rfl (setRow_heap _ _ _ _ _ _ HB6.out) Try.underlying29 rfl size_env) rfl ?_
  exact changed_end (y := { x with next := a, nevery := b, nspace := c, nindent := d, nskip := f }) (u := u) (v := v) HU.out HV.out HBW.out rfl
theorem changed_6_0 (n : Int) (k z : Nat) (x : EnvT) (hz4 : (z : Int).tmod 4 = 0) (hp : Pick n k z 6) : ChangedTo n x { x with mode := 108 } := by
  rintro ok w cs ⟨u, v, rfl, hu, hv⟩
  have HU := hide hu
  have HV := hide hv
  obtain ⟨hk, hz, hj, hlt, hzl⟩ := hp
  clear hu hv
  go_enter Try.func21, Try.ntmps21
  go_upto_region 1 with fail
  refine wp_two ?_
  intro W0 hb1 hb2 hbel hsz
  have d15 : W0.cell? ⟨w.heap.size, 15, none⟩ = some (.int .u8 (x.mode.toNat : Int)) := by rw [blk_cell hb1]; rfl
  have zf : ∀ i, W0.frozen? ⟨w.heap.size, i, none⟩ = false := fun i => blk_frozen hb1
  have g15 := zf 15
  have HB1 := hide hb1
  have HB2 := hide hb2
  have HBEL := hide hbel
  clear hb1 hb2 hbel zf
  go_upto_region 44 with fail
  refine set_blk HB1.out [(15, .int .u8 108)] ({ x with mode := 108 }.cells u v).toArray rfl ?_
  intro W3 hb3 hk3
  have hbw : Below w.heap.size w W3 := HBEL.out.trans (hk3.below HBEL.out.size (fun i h => by omega))
  have hu3 := HU.out.below hbw
  have hv3 := HV.out.below hbw
  have HB3 := hide hb3
  have HB4 := hide (blk_kept HB2.out hk3 (by omega))
  have HU3 := hide hu3
  have HV3 := hide hv3
  have HBW := hide hbw
  clear hb3 hk3 hu3 hv3 hbw
  go_wp2_with (first
    | refine wpList_load_row rfl 29 _ rfl w.heap.size rfl 29 _ (0, 0) _ HB3.out Try.underlying29 rfl size_env ?_
    | refine wpList_store_row rfl 29 _ _ rfl (w.heap.size + 1) _ rfl rfl 29 _ HB4.out size_env rfl (env_one { x with mode := 108 } HU3.out.one HV3.out.one) ?_)
  refine bodyPost_ret (results_cell_row rfl _ _ (w.heap.size + 1) 29 _ (0, 0) _ rfl (setRow_heap _ _ _ _ _ _ HB4.out) Try.underlying29 rfl size_env) rfl ?_
  exact changed_end (y := { x with mode := 108 }) (u := u) (v := v) HU.out HV.out HBW.out rfl
theorem changed_6_1 (n : Int) (k z : Nat) (x : EnvT) (hz4 : (z : Int).tmod 4 = 1) (hp : Pick n k z 6) : ChangedTo n x { x with mode := 114 } := by
  rintro ok w cs ⟨u, v, rfl, hu, hv⟩
  have HU := hide hu
  have HV := hide hv
  obtain ⟨hk, hz, hj, hlt, hzl⟩ := hp
  clear hu hv
  go_enter Try.func21, Try.ntmps21
  go_upto_region 1 with fail
  refine wp_two ?_
  intro W0 hb1 hb2 hbel hsz
  have d15 : W0.cell? ⟨w.heap.size, 15, none⟩ = some (.int .u8 (x.mode.toNat : Int)) := by rw [blk_cell hb1]; rfl
  have zf : ∀ i, W0.frozen? ⟨w.heap.size, i, none⟩ = false := fun i => blk_frozen hb1
  have g15 := zf 15
  have HB1 := hide hb1
  have HB2 := hide hb2
  have HBEL := hide hbel
  clear hb1 hb2 hbel zf
  go_upto_region 44 with fail
  refine set_blk HB1.out [(15, .int .u8 114)] ({ x with mode := 114 }.cells u v).toArray rfl ?_
  intro W3 hb3 hk3
  have hbw : Below w.heap.size w W3 := HBEL.out.trans (hk3.below HBEL.out.size (fun i h => by omega))
  have hu3 := HU.out.below hbw
  have hv3 := HV.out.below hbw
  have HB3 := hide hb3
  have HB4 := hide (blk_kept HB2.out hk3 (by omega))
  have HU3 := hide hu3
  have HV3 := hide hv3
  have HBW := hide hbw
  clear hb3 hk3 hu3 hv3 hbw
  go_wp2_with (first
    | refine wpList_load_row rfl 29 _ rfl w.heap.size rfl 29 _ (0, 0) _ HB3.out Try.underlying29 rfl size_env ?_
    | refine wpList_store_row rfl 29 _ _ rfl (w.heap.size + 1) _ rfl rfl 29 _ HB4.out size_env rfl (env_one { x with mode := 114 } HU3.out.one HV3.out.one) ?_)
  refine bodyPost_ret (results_cell_row rfl _ _ (w.heap.size + 1) 29 _ (0, 0) _ rfl (setRow_heap _ _ _ _ _ _ HB4.out) Try.underlying29 rfl size_env) rfl ?_
  exact changed_end (y := { x with mode := 114 }) (u := u) (v := v) HU.out HV.out HBW.out rfl
theorem changed_6_2 (n : Int) (k z : Nat) (x : EnvT) (hz4 : (z : Int).tmod 4 = 2) (hp : Pick n k z 6) : ChangedTo n x { x with mode := 99 } := by
  rintro ok w cs ⟨u, v, rfl, hu, hv⟩
  have HU := hide hu
  have HV := hide hv
  obtain ⟨hk, hz, hj, hlt, hzl⟩ := hp
  clear hu hv
  go_enter Try.func21, Try.ntmps21
  go_upto_region 1 with fail
  refine wp_two ?_
  intro W0 hb1 hb2 hbel hsz
  have d15 : W0.cell? ⟨w.heap.size, 15, none⟩ = some (.int .u8 (x.mode.toNat : Int)) := by rw [blk_cell hb1]; rfl
  have zf : ∀ i, W0.frozen? ⟨w.heap.size, i, none⟩ = false := fun i => blk_frozen hb1
  have g15 := zf 15
  have HB1 := hide hb1
  have HB2 := hide hb2
  have HBEL := hide hbel
  clear hb1 hb2 hbel zf
  go_upto_region 44 with fail
  refine set_blk HB1.out [(15, .int .u8 99)] ({ x with mode := 99 }.cells u v).toArray rfl ?_
  intro W3 hb3 hk3
  have hbw : Below w.heap.size w W3 := HBEL.out.trans (hk3.below HBEL.out.size (fun i h => by omega))
  have hu3 := HU.out.below hbw
  have hv3 := HV.out.below hbw
  have HB3 := hide hb3
  have HB4 := hide (blk_kept HB2.out hk3 (by omega))
  have HU3 := hide hu3
  have HV3 := hide hv3
  have HBW := hide hbw
  clear hb3 hk3 hu3 hv3 hbw
  go_wp2_with (first
    | refine wpList_load_row rfl 29 _ rfl w.heap.size rfl 29 _ (0, 0) _ HB3.out Try.underlying29 rfl size_env ?_
    | refine wpList_store_row rfl 29 _ _ rfl (w.heap.size + 1) _ rfl rfl 29 _ HB4.out size_env rfl (env_one { x with mode := 99 } HU3.out.one HV3.out.one) ?_)
  refine bodyPost_ret (results_cell_row rfl _ _ (w.heap.size + 1) 29 _ (0, 0) _ rfl (setRow_heap _ _ _ _ _ _ HB4.out) Try.underlying29 rfl size_env) rfl ?_
  exact changed_end (y := { x with mode := 99 }) (u := u) (v := v) HU.out HV.out HBW.out rfl
theorem changed_6_3 (n : Int) (k z : Nat) (x : EnvT) (hz4 : (z : Int).tmod 4 = 3) (hp : Pick n k z 6) : ChangedTo n x { x with mode := 98 } := by
  rintro ok w cs ⟨u, v, rfl, hu, hv⟩
  have HU := hide hu
  have HV := hide hv
  obtain ⟨hk, hz, hj, hlt, hzl⟩ := hp
  clear hu hv
  go_enter Try.func21, Try.ntmps21
  go_upto_region 1 with fail
  refine wp_two ?_
  intro W0 hb1 hb2 hbel hsz
  have d15 : W0.cell? ⟨w.heap.size, 15, none⟩ = some (.int .u8 (x.mode.toNat : Int)) := by rw [blk_cell hb1]; rfl
  have zf : ∀ i, W0.frozen? ⟨w.heap.size, i, none⟩ = false := fun i => blk_frozen hb1
  have g15 := zf 15
  have HB1 := hide hb1
  have HB2 := hide hb2
  have HBEL := hide hbel
  clear hb1 hb2 hbel zf
  go_upto_region 44 with fail
  refine set_blk HB1.out [(15, .int .u8 98)] ({ x with mode := 98 }.cells u v).toArray rfl ?_
  intro W3 hb3 hk3
  have hbw : Below w.heap.size w W3 := HBEL.out.trans (hk3.below HBEL.out.size (fun i h => by omega))
  have hu3 := HU.out.below hbw
  have hv3 := HV.out.below hbw
  have HB3 := hide hb3
  have HB4 := hide (blk_kept HB2.out hk3 (by omega))
  have HU3 := hide hu3
  have HV3 := hide hv3
  have HBW := hide hbw
  clear hb3 hk3 hu3 hv3 hbw
  go_wp2_with (first
    | refine wpList_load_row rfl 29 _ rfl w.heap.size rfl 29 _ (0, 0) _ HB3.out Try.underlying29 rfl size_env ?_
    | refine wpList_store_row rfl 29 _ _ rfl (w.heap.size + 1) _ rfl rfl 29 _ HB4.out size_env rfl (env_one { x with mode := 98 } HU3.out.one HV3.out.one) ?_)
  refine bodyPost_ret (results_cell_row rfl _ _ (w.heap.size + 1) 29 _ (0, 0) _ rfl (setRow_heap _ _ _ _ _ _ HB4.out) Try.underlying29 rfl size_env) rfl ?_
  exact changed_end (y := { x with mode := 98 }) (u := u) (v := v) HU.out HV.out HBW.out rfl
end Go.Proofs.Ytekkjieoikgpmaa
