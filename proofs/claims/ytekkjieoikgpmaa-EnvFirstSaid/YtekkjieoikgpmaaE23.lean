/- env.Same. -/
import Derived.Test.YtekkjieoikgpmaaE22
import Derived.BigQuiet
set_option linter.unusedVariables false
set_option linter.unusedSimpArgs false
namespace Go.Proofs.Ytekkjieoikgpmaa
open Go.RowKit
set_option maxHeartbeats 3200000
set_option maxRecDepth 1000000

theorem quiet_load_row {P : Program} {C : World → Prop} {a : Act} {o : Oper} {K : Act → Prop} (ty : TypeId) (x : Operand) (ho : o.op = .load ty x) (g : Nat) (hx : a.eval x = .pointer (some ⟨g, 0, none⟩)) (t : TypeId) (cs : Array Value) (fr : Nat × Nat) (d : TypeDesc)
    (hC : ∀ w, C w → w.heap[g]? = some (.cells cs t fr)) (hu : P.underlying ty = some d) (hd : (match d with | .struct _ | .array _ _ => true | _ => false) = true) (hi : (P.info? ty).map (·.size) = some cs.size) (hk : K (a.put o.dst (.agg cs))) : o.quiet P a C K :=
  ⟨.agg cs, fun w hw => by
    unfold Oper.quietAt execOp
    simp only [ho, hx, Instr.loadAt, Instr.sureAddr, Sem.run_bind, Sem.run_pure, Result.andThen_ok, run_loadVar_row w g t ty cs fr d (hC w hw) hu hd hi]
    exact ⟨rfl, rfl⟩, hk⟩
/-- Are two environments the same? -/
def sameE (x y : EnvT) : Bool := plainB x y && ((x.every == y.every) && (all2 eqStop x.stops y.stops && all2 boxEq x.row y.row))
theorem Same_any (x y : EnvT) (cx cy : List Value) (ok ok' : Nat → Prop) (w : World) (hx : envK.K w ok x cx) (hy : envK.K w ok' y cy) (hs : x.small) (ht : y.small) :
    Calls Try.prog 16 #[.agg cx.toArray, .agg cy.toArray] w fun e w' => e = .returned (.bool (sameE x y)) ∧ Below w.heap.size w w' := by
  obtain ⟨u, v, hcx, ⟨A1, c1, rfl, -, -, hr1⟩, ⟨A2, c2, rfl, -, -, hr2⟩⟩ := hx
  obtain ⟨u', v', hcy, ⟨A3, c3, rfl, -, -, hr3⟩, ⟨A4, c4, rfl, -, -, hr4⟩⟩ := hy
  have HLX := hide (show cx.toArray.size = 40 by rw [hcx]; rfl)
  have HLY := hide (show cy.toArray.size = 40 by rw [hcy]; rfl)
  have HPX := hide (fun W : World => (show Calls Try.prog 47 #[.agg cx.toArray] W fun e w' => e = .returned (.agg (plainCs x).toArray) ∧ Below W.heap.size W w' from by rw [hcx]; exact plain_any x _ _ W))
  have HPY := hide (fun W : World => (show Calls Try.prog 47 #[.agg cy.toArray] W fun e w' => e = .returned (.agg (plainCs y).toArray) ∧ Below W.heap.size W w' from by rw [hcy]; exact plain_any y _ _ W))
  have HCX := hide hcx
  have HCY := hide hcy
  clear hcx hcy
  obtain ⟨hs1, hs2, hs3⟩ := hs
  have HS3 := hide hs3
  have HR1 := hide (hr1.weaken (ok' := fun _ => True) (fun _ _ => trivial))
  have HR2 := hide (hr2.weaken (ok' := fun _ => True) (fun _ _ => trivial))
  have HR3 := hide (hr3.weaken (ok' := fun _ => True) (fun _ _ => trivial))
  have HR4 := hide (hr4.weaken (ok' := fun _ => True) (fun _ _ => trivial))
  have hsm : Hid (sameE x y = (plainB x y && ((x.every == y.every) && (all2 eqStop x.stops y.stops && all2 boxEq x.row y.row)))) := hide rfl
  clear hr1 hr2 hr3 hr4 hs3 ht
  cases hp : plainB x y with
  | false =>
    have HP := hide hp
    have HST := hide (rfl : all2 eqStop x.stops y.stops = all2 eqStop x.stops y.stops)
    obtain ⟨r, hr⟩ : ∃ r, all2 boxEq x.row y.row = r := ⟨_, rfl⟩
    have HRO := hide hr
    clear hr
    have heq := fun W => eql_bare x y W
    rw [hp] at heq
    clear hp
    go_enter Try.func16, Try.ntmps16
    go_upto_region 1 with fail
    refine wp_two ?_
    intro W0 hb1 hb2 hbel hsz
    have d0 : W0.cell? ⟨w.heap.size, 21, none⟩ = some (.slice A1 x.stops.length c1) := by rw [blk_cell hb1, HCX.out]; rfl
    have d1 : W0.cell? ⟨w.heap.size, 22, none⟩ = some (.int .i64 x.every) := by rw [blk_cell hb1, HCX.out]; rfl
    have d2 : W0.cell? ⟨w.heap.size, 35, none⟩ = some (.slice A2 x.row.length c2) := by rw [blk_cell hb1, HCX.out]; rfl
    have d3 : W0.cell? ⟨w.heap.size + 1, 21, none⟩ = some (.slice A3 y.stops.length c3) := by rw [blk_cell hb2, HCY.out]; rfl
    have d4 : W0.cell? ⟨w.heap.size + 1, 22, none⟩ = some (.int .i64 y.every) := by rw [blk_cell hb2, HCY.out]; rfl
    have d5 : W0.cell? ⟨w.heap.size + 1, 35, none⟩ = some (.slice A4 y.row.length c4) := by rw [blk_cell hb2, HCY.out]; rfl
    have C0 := cell_after d0
    have C1 := cell_after d1
    have C2 := cell_after d2
    have C3 := cell_after d3
    have C4 := cell_after d4
    have C5 := cell_after d5
    have HB1 := hide hb1
    have HB2 := hide hb2
    have HBEL := hide hbel
    clear d0 d1 d2 d3 d4 d5 hb1 hb2 hbel hsz
    refine wp_region_after (by kernel_rfl) (by kernel_rfl) ?_
    repeat (first
      | (go_big_quiet_want
         refine quiet_load_row 29 (Operand.tmp 2) rfl w.heap.size (by go_simp) 29 _ (0, 0) _ (fun w' hw => by obtain ⟨q, rfl⟩ := hw; exact blk_below HB1.out q.h (blk_lt HB1.out)) Try.underlying29 rfl (by rw [size_env, HLX.out]) ?_
         simp only [Act.put, List.setIfInBounds_toArray, List.set_cons_zero, List.set_cons_succ]
         go_big_quiet_on)
      | (go_big_quiet_want
         refine quiet_load_row 29 (Operand.tmp 3) rfl (w.heap.size + 1) (by go_simp) 29 _ (0, 0) _ (fun w' hw => by obtain ⟨q, rfl⟩ := hw; exact blk_below HB2.out q.h (blk_lt HB2.out)) Try.underlying29 rfl (by rw [size_env, HLY.out]) ?_
         simp only [Act.put, List.setIfInBounds_toArray, List.set_cons_zero, List.set_cons_succ]
         go_big_quiet_on)
      | (go_big_quiet_step (first
          | (go_at_call 47; with_reducible exact calls_after (HPX.out _))
          | (go_at_call 47; with_reducible exact calls_after (HPY.out _))
          | (go_at_call 48; refine calls_after (v := .bool true) ?_; rw [← HST.out]; exact Equal_stop A1 x.stops.length c1 x.stops A3 y.stops.length c3 y.stops (fun _ => True) _ (HR1.out.below (HBEL.out.trans ((After.h _).mono HBEL.out.size))) (HR3.out.below (HBEL.out.trans ((After.h _).mono HBEL.out.size))) (by omega))
          | (go_at_call 49; refine calls_after (v := .bool r) ?_; rw [← HRO.out]; exact EqualFunc_box A2 x.row.length c2 x.row A4 y.row.length c4 y.row (fun _ => True) _ (HR2.out.below (HBEL.out.trans ((After.h _).mono HBEL.out.size))) (HR4.out.below (HBEL.out.trans ((After.h _).mono HBEL.out.size))) (by omega) (fun z hz => by have := HS3.out z hz; omega)))))
    refine wpQuiet_nil ?_
    intro _ hw'
    obtain ⟨q, rfl⟩ := hw'
    go_wp2_with fail
    go_ret
    exact ⟨ret_bool (by rw [hsm.out, HP.out]; rfl), HBEL.out.trans (q.h.mono HBEL.out.size)⟩
  | true =>
    have HP := hide hp
    have heq := fun W => eql_bare x y W
    rw [hp] at heq
    clear hp
    cases he : (x.every == y.every) with
    | false =>
      have HST := hide (rfl : all2 eqStop x.stops y.stops = all2 eqStop x.stops y.stops)
      obtain ⟨r, hr⟩ : ∃ r, all2 boxEq x.row y.row = r := ⟨_, rfl⟩
      have HRO := hide hr
      clear hr
      go_enter Try.func16, Try.ntmps16
      go_upto_region 1 with fail
      refine wp_two ?_
      intro W0 hb1 hb2 hbel hsz
      have d0 : W0.cell? ⟨w.heap.size, 21, none⟩ = some (.slice A1 x.stops.length c1) := by rw [blk_cell hb1, HCX.out]; rfl
      have d1 : W0.cell? ⟨w.heap.size, 22, none⟩ = some (.int .i64 x.every) := by rw [blk_cell hb1, HCX.out]; rfl
      have d2 : W0.cell? ⟨w.heap.size, 35, none⟩ = some (.slice A2 x.row.length c2) := by rw [blk_cell hb1, HCX.out]; rfl
      have d3 : W0.cell? ⟨w.heap.size + 1, 21, none⟩ = some (.slice A3 y.stops.length c3) := by rw [blk_cell hb2, HCY.out]; rfl
      have d4 : W0.cell? ⟨w.heap.size + 1, 22, none⟩ = some (.int .i64 y.every) := by rw [blk_cell hb2, HCY.out]; rfl
      have d5 : W0.cell? ⟨w.heap.size + 1, 35, none⟩ = some (.slice A4 y.row.length c4) := by rw [blk_cell hb2, HCY.out]; rfl
      have C0 := cell_after d0
      have C1 := cell_after d1
      have C2 := cell_after d2
      have C3 := cell_after d3
      have C4 := cell_after d4
      have C5 := cell_after d5
      have HB1 := hide hb1
      have HB2 := hide hb2
      have HBEL := hide hbel
      clear d0 d1 d2 d3 d4 d5 hb1 hb2 hbel hsz
      refine wp_region_after (by kernel_rfl) (by kernel_rfl) ?_
      repeat (first
        | (go_big_quiet_want
           refine quiet_load_row 29 (Operand.tmp 2) rfl w.heap.size (by go_simp) 29 _ (0, 0) _ (fun w' hw => by obtain ⟨q, rfl⟩ := hw; exact blk_below HB1.out q.h (blk_lt HB1.out)) Try.underlying29 rfl (by rw [size_env, HLX.out]) ?_
           simp only [Act.put, List.setIfInBounds_toArray, List.set_cons_zero, List.set_cons_succ]
           go_big_quiet_on)
        | (go_big_quiet_want
           refine quiet_load_row 29 (Operand.tmp 3) rfl (w.heap.size + 1) (by go_simp) 29 _ (0, 0) _ (fun w' hw => by obtain ⟨q, rfl⟩ := hw; exact blk_below HB2.out q.h (blk_lt HB2.out)) Try.underlying29 rfl (by rw [size_env, HLY.out]) ?_
           simp only [Act.put, List.setIfInBounds_toArray, List.set_cons_zero, List.set_cons_succ]
           go_big_quiet_on)
        | (go_big_quiet_step (first
            | (go_at_call 47; with_reducible exact calls_after (HPX.out _))
            | (go_at_call 47; with_reducible exact calls_after (HPY.out _))
            | (go_at_call 48; refine calls_after (v := .bool true) ?_; rw [← HST.out]; exact Equal_stop A1 x.stops.length c1 x.stops A3 y.stops.length c3 y.stops (fun _ => True) _ (HR1.out.below (HBEL.out.trans ((After.h _).mono HBEL.out.size))) (HR3.out.below (HBEL.out.trans ((After.h _).mono HBEL.out.size))) (by omega))
            | (go_at_call 49; refine calls_after (v := .bool r) ?_; rw [← HRO.out]; exact EqualFunc_box A2 x.row.length c2 x.row A4 y.row.length c4 y.row (fun _ => True) _ (HR2.out.below (HBEL.out.trans ((After.h _).mono HBEL.out.size))) (HR4.out.below (HBEL.out.trans ((After.h _).mono HBEL.out.size))) (by omega) (fun z hz => by have := HS3.out z hz; omega)))))
      refine wpQuiet_nil ?_
      intro _ hw'
      obtain ⟨q, rfl⟩ := hw'
      go_wp2_with fail
      go_ret
      exact ⟨ret_bool (by rw [hsm.out, HP.out, he]; rfl), HBEL.out.trans (q.h.mono HBEL.out.size)⟩
    | true =>
      cases hst : all2 eqStop x.stops y.stops with
      | false =>
        have HST := hide hst
        obtain ⟨r, hr⟩ : ∃ r, all2 boxEq x.row y.row = r := ⟨_, rfl⟩
        have HRO := hide hr
        clear hr
        clear hst
        go_enter Try.func16, Try.ntmps16
        go_upto_region 1 with fail
        refine wp_two ?_
        intro W0 hb1 hb2 hbel hsz
        have d0 : W0.cell? ⟨w.heap.size, 21, none⟩ = some (.slice A1 x.stops.length c1) := by rw [blk_cell hb1, HCX.out]; rfl
        have d1 : W0.cell? ⟨w.heap.size, 22, none⟩ = some (.int .i64 x.every) := by rw [blk_cell hb1, HCX.out]; rfl
        have d2 : W0.cell? ⟨w.heap.size, 35, none⟩ = some (.slice A2 x.row.length c2) := by rw [blk_cell hb1, HCX.out]; rfl
        have d3 : W0.cell? ⟨w.heap.size + 1, 21, none⟩ = some (.slice A3 y.stops.length c3) := by rw [blk_cell hb2, HCY.out]; rfl
        have d4 : W0.cell? ⟨w.heap.size + 1, 22, none⟩ = some (.int .i64 y.every) := by rw [blk_cell hb2, HCY.out]; rfl
        have d5 : W0.cell? ⟨w.heap.size + 1, 35, none⟩ = some (.slice A4 y.row.length c4) := by rw [blk_cell hb2, HCY.out]; rfl
        have C0 := cell_after d0
        have C1 := cell_after d1
        have C2 := cell_after d2
        have C3 := cell_after d3
        have C4 := cell_after d4
        have C5 := cell_after d5
        have HB1 := hide hb1
        have HB2 := hide hb2
        have HBEL := hide hbel
        clear d0 d1 d2 d3 d4 d5 hb1 hb2 hbel hsz
        refine wp_region_after (by kernel_rfl) (by kernel_rfl) ?_
        repeat (first
          | (go_big_quiet_want
             refine quiet_load_row 29 (Operand.tmp 2) rfl w.heap.size (by go_simp) 29 _ (0, 0) _ (fun w' hw => by obtain ⟨q, rfl⟩ := hw; exact blk_below HB1.out q.h (blk_lt HB1.out)) Try.underlying29 rfl (by rw [size_env, HLX.out]) ?_
             simp only [Act.put, List.setIfInBounds_toArray, List.set_cons_zero, List.set_cons_succ]
             go_big_quiet_on)
          | (go_big_quiet_want
             refine quiet_load_row 29 (Operand.tmp 3) rfl (w.heap.size + 1) (by go_simp) 29 _ (0, 0) _ (fun w' hw => by obtain ⟨q, rfl⟩ := hw; exact blk_below HB2.out q.h (blk_lt HB2.out)) Try.underlying29 rfl (by rw [size_env, HLY.out]) ?_
             simp only [Act.put, List.setIfInBounds_toArray, List.set_cons_zero, List.set_cons_succ]
             go_big_quiet_on)
          | (go_big_quiet_step (first
              | (go_at_call 47; with_reducible exact calls_after (HPX.out _))
              | (go_at_call 47; with_reducible exact calls_after (HPY.out _))
              | (go_at_call 48; refine calls_after (v := .bool false) ?_; rw [← HST.out]; exact Equal_stop A1 x.stops.length c1 x.stops A3 y.stops.length c3 y.stops (fun _ => True) _ (HR1.out.below (HBEL.out.trans ((After.h _).mono HBEL.out.size))) (HR3.out.below (HBEL.out.trans ((After.h _).mono HBEL.out.size))) (by omega))
              | (go_at_call 49; refine calls_after (v := .bool r) ?_; rw [← HRO.out]; exact EqualFunc_box A2 x.row.length c2 x.row A4 y.row.length c4 y.row (fun _ => True) _ (HR2.out.below (HBEL.out.trans ((After.h _).mono HBEL.out.size))) (HR4.out.below (HBEL.out.trans ((After.h _).mono HBEL.out.size))) (by omega) (fun z hz => by have := HS3.out z hz; omega)))))
        refine wpQuiet_nil ?_
        intro _ hw'
        obtain ⟨q, rfl⟩ := hw'
        go_wp2_with fail
        go_ret
        exact ⟨ret_bool (by rw [hsm.out, HP.out, he, HST.out]; rfl), HBEL.out.trans (q.h.mono HBEL.out.size)⟩
      | true =>
        have HST := hide hst
        obtain ⟨r, hr⟩ : ∃ r, all2 boxEq x.row y.row = r := ⟨_, rfl⟩
        have HRO := hide hr
        clear hst hr
        go_enter Try.func16, Try.ntmps16
        go_upto_region 1 with fail
        refine wp_two ?_
        intro W0 hb1 hb2 hbel hsz
        have d0 : W0.cell? ⟨w.heap.size, 21, none⟩ = some (.slice A1 x.stops.length c1) := by rw [blk_cell hb1, HCX.out]; rfl
        have d1 : W0.cell? ⟨w.heap.size, 22, none⟩ = some (.int .i64 x.every) := by rw [blk_cell hb1, HCX.out]; rfl
        have d2 : W0.cell? ⟨w.heap.size, 35, none⟩ = some (.slice A2 x.row.length c2) := by rw [blk_cell hb1, HCX.out]; rfl
        have d3 : W0.cell? ⟨w.heap.size + 1, 21, none⟩ = some (.slice A3 y.stops.length c3) := by rw [blk_cell hb2, HCY.out]; rfl
        have d4 : W0.cell? ⟨w.heap.size + 1, 22, none⟩ = some (.int .i64 y.every) := by rw [blk_cell hb2, HCY.out]; rfl
        have d5 : W0.cell? ⟨w.heap.size + 1, 35, none⟩ = some (.slice A4 y.row.length c4) := by rw [blk_cell hb2, HCY.out]; rfl
        have C0 := cell_after d0
        have C1 := cell_after d1
        have C2 := cell_after d2
        have C3 := cell_after d3
        have C4 := cell_after d4
        have C5 := cell_after d5
        have HB1 := hide hb1
        have HB2 := hide hb2
        have HBEL := hide hbel
        clear d0 d1 d2 d3 d4 d5 hb1 hb2 hbel hsz
        refine wp_region_after (by kernel_rfl) (by kernel_rfl) ?_
        repeat (first
          | (go_big_quiet_want
             refine quiet_load_row 29 (Operand.tmp 2) rfl w.heap.size (by go_simp) 29 _ (0, 0) _ (fun w' hw => by obtain ⟨q, rfl⟩ := hw; exact blk_below HB1.out q.h (blk_lt HB1.out)) Try.underlying29 rfl (by rw [size_env, HLX.out]) ?_
             simp only [Act.put, List.setIfInBounds_toArray, List.set_cons_zero, List.set_cons_succ]
             go_big_quiet_on)
          | (go_big_quiet_want
             refine quiet_load_row 29 (Operand.tmp 3) rfl (w.heap.size + 1) (by go_simp) 29 _ (0, 0) _ (fun w' hw => by obtain ⟨q, rfl⟩ := hw; exact blk_below HB2.out q.h (blk_lt HB2.out)) Try.underlying29 rfl (by rw [size_env, HLY.out]) ?_
             simp only [Act.put, List.setIfInBounds_toArray, List.set_cons_zero, List.set_cons_succ]
             go_big_quiet_on)
          | (go_big_quiet_step (first
              | (go_at_call 47; with_reducible exact calls_after (HPX.out _))
              | (go_at_call 47; with_reducible exact calls_after (HPY.out _))
              | (go_at_call 48; refine calls_after (v := .bool true) ?_; rw [← HST.out]; exact Equal_stop A1 x.stops.length c1 x.stops A3 y.stops.length c3 y.stops (fun _ => True) _ (HR1.out.below (HBEL.out.trans ((After.h _).mono HBEL.out.size))) (HR3.out.below (HBEL.out.trans ((After.h _).mono HBEL.out.size))) (by omega))
              | (go_at_call 49; refine calls_after (v := .bool r) ?_; rw [← HRO.out]; exact EqualFunc_box A2 x.row.length c2 x.row A4 y.row.length c4 y.row (fun _ => True) _ (HR2.out.below (HBEL.out.trans ((After.h _).mono HBEL.out.size))) (HR4.out.below (HBEL.out.trans ((After.h _).mono HBEL.out.size))) (by omega) (fun z hz => by have := HS3.out z hz; omega)))))
        refine wpQuiet_nil ?_
        intro _ hw'
        obtain ⟨q, rfl⟩ := hw'
        go_wp2_with fail
        go_ret
        exact ⟨ret_bool (by rw [hsm.out, HP.out, he, HST.out, HRO.out]; rfl), HBEL.out.trans (q.h.mono HBEL.out.size)⟩
end Go.Proofs.Ytekkjieoikgpmaa
