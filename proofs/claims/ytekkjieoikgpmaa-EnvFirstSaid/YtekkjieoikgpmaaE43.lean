/- The reference's SameBox and Same of rows of boxes. -/
import Derived.Test.YtekkjieoikgpmaaE42
import Derived.Test.YtekkjieoikgpmaaE8
import Derived.BigQuiet
set_option linter.unusedVariables false
set_option linter.unusedSimpArgs false
namespace Go.Proofs.Ytekkjieoikgpmaa
open Go.RowKit
set_option maxHeartbeats 3200000
set_option maxRecDepth 1000000

theorem refSameBox_any (a b : BoxT) (A : Option Addr) (c : Nat) (B : Option Addr) (d : Nat) (w : World) (ha : Kind.int.Rd w (fun _ => True) A a.f6.length a.f6) (hb : Kind.int.Rd w (fun _ => True) B b.f6.length b.f6) (hn : a.f6.length ≤ 9223372036854775807) :
    Calls Try.prog 60 #[.agg (a.cells A c).toArray, .agg (b.cells B d).toArray] w fun e w' => e = .returned (.bool (boxEq a b)) ∧ Below w.heap.size w w' := by
  obtain ⟨a0, a1, a2, a3, a4, a5, a6⟩ := a
  obtain ⟨b0, b1, b2, b3, b4, b5, b6⟩ := b
  obtain ⟨n, hln⟩ : ∃ n, n = a6.length := ⟨_, rfl⟩
  obtain ⟨m, hrn⟩ : ∃ m, m = b6.length := ⟨_, rfl⟩
  have HL := hide (show Kind.int.Rd w (fun _ => True) A a6.length a6 from ha)
  have HR := hide (show Kind.int.Rd w (fun _ => True) B b6.length b6 from hb)
  have hn : a6.length ≤ 9223372036854775807 := hn
  show Calls Try.prog 60 #[.agg #[.int .i64 a0, .int .i64 a1, .int .i64 a2, .int .i64 a3, .string a4, .string a5, .slice A a6.length c], .agg #[.int .i64 b0, .int .i64 b1, .int .i64 b2, .int .i64 b3, .string b4, .string b5, .slice B b6.length d]] w fun e w' => e = .returned (.bool ((a0 == b0) && ((a1 == b1) && ((a2 == b2) && ((a3 == b3) && ((a4.toList == b4.toList) && ((a5.toList == b5.toList) && all2 (· == ·) a6 b6))))))) ∧ Below w.heap.size w w'
  rw [← hln] at HL hn ⊢
  rw [← hrn] at HR ⊢
  have HLN := hide hln
  have HRN := hide hrn
  have hal : Below w.heap.size w ((w.alloc (.cells #[.int .i64 a0, .int .i64 a1, .int .i64 a2, .int .i64 a3, .string a4, .string a5, .slice A n c] 86)).alloc (.cells #[.int .i64 b0, .int .i64 b1, .int .i64 b2, .int .i64 b3, .string b4, .string b5, .slice B m d] 86)) := ((Below.refl _ _).alloc (Nat.le_refl _) _).alloc (by simp) _
  have HAL := hide hal
  clear ha hb hal hln hrn
  by_cases h0 : a0 = b0
  rotate_left
  · skip
    go_enter Try.func60, Try.ntmps60
    go_wp2_with fail
    go_ret
    exact ⟨ret_bool (by simp [h0]), HAL.out⟩
  · subst h0
    by_cases h1 : a1 = b1
    rotate_left
    · skip
      go_enter Try.func60, Try.ntmps60
      go_wp2_with fail
      go_ret
      exact ⟨ret_bool (by simp [h1]), HAL.out⟩
    · subst h1
      by_cases h2 : a2 = b2
      rotate_left
      · skip
        go_enter Try.func60, Try.ntmps60
        go_wp2_with fail
        go_ret
        exact ⟨ret_bool (by simp [h2]), HAL.out⟩
      · subst h2
        by_cases h3 : a3 = b3
        rotate_left
        · skip
          go_enter Try.func60, Try.ntmps60
          go_wp2_with fail
          go_ret
          exact ⟨ret_bool (by simp [h3]), HAL.out⟩
        · subst h3
          cases h4 : (a4.toList == b4.toList) with
          | false =>
            go_enter Try.func60, Try.ntmps60
            go_wp2_with fail
            go_ret
            exact ⟨ret_bool (by simp), HAL.out⟩
          | true =>
            cases h5 : (a5.toList == b5.toList) with
            | false =>
              go_enter Try.func60, Try.ntmps60
              go_wp2_with fail
              go_ret
              exact ⟨ret_bool (by simp), HAL.out⟩
            | true =>
              by_cases hnm : n = m
              · subst hnm
                go_enter Try.func60, Try.ntmps60
                go_upto_region 1 with fail
                refine wp_two ?_
                intro W0 hb1 hb2 hbel hsz
                have d0 : W0.cell? ⟨w.heap.size, 0, none⟩ = some (.int .i64 a0) := by rw [blk_cell hb1]; rfl
                have d1 : W0.cell? ⟨w.heap.size, 1, none⟩ = some (.int .i64 a1) := by rw [blk_cell hb1]; rfl
                have d2 : W0.cell? ⟨w.heap.size, 2, none⟩ = some (.int .i64 a2) := by rw [blk_cell hb1]; rfl
                have d3 : W0.cell? ⟨w.heap.size, 3, none⟩ = some (.int .i64 a3) := by rw [blk_cell hb1]; rfl
                have d4 : W0.cell? ⟨w.heap.size, 4, none⟩ = some (.string a4) := by rw [blk_cell hb1]; rfl
                have d5 : W0.cell? ⟨w.heap.size, 5, none⟩ = some (.string a5) := by rw [blk_cell hb1]; rfl
                have d6 : W0.cell? ⟨w.heap.size, 6, none⟩ = some (.slice A n c) := by rw [blk_cell hb1]; rfl
                have g0 : W0.cell? ⟨w.heap.size + 1, 0, none⟩ = some (.int .i64 a0) := by rw [blk_cell hb2]; rfl
                have g1 : W0.cell? ⟨w.heap.size + 1, 1, none⟩ = some (.int .i64 a1) := by rw [blk_cell hb2]; rfl
                have g2 : W0.cell? ⟨w.heap.size + 1, 2, none⟩ = some (.int .i64 a2) := by rw [blk_cell hb2]; rfl
                have g3 : W0.cell? ⟨w.heap.size + 1, 3, none⟩ = some (.int .i64 a3) := by rw [blk_cell hb2]; rfl
                have g4 : W0.cell? ⟨w.heap.size + 1, 4, none⟩ = some (.string b4) := by rw [blk_cell hb2]; rfl
                have g5 : W0.cell? ⟨w.heap.size + 1, 5, none⟩ = some (.string b5) := by rw [blk_cell hb2]; rfl
                have g6 : W0.cell? ⟨w.heap.size + 1, 6, none⟩ = some (.slice B n d) := by rw [blk_cell hb2]; rfl
                have HBEL := hide hbel
                clear hb1 hb2 hbel hsz
                go_wp2_with fail
                go_loopw [5] (fun t5 wr => ∃ k : Nat, t5 = .int .i64 k ∧ k ≤ n ∧ Hid (all2 (· == ·) (a6.take k) (b6.take k) = true) ∧ Hid (Below W0.heap.size W0 wr)) (fun t5 _ => n - (intOf t5).toNat)
                case atStart => exact ⟨0, rfl, Nat.zero_le _, hide (by simp [all2]), hide (Below.refl _ _)⟩
                case round =>
                  obtain ⟨k, rfl, hk, HG, HB⟩ := hrel
                  have e0 := cell_stays HB.out d6
                  have e2 := cell_stays HB.out g6
                  clear d0 d1 d2 d3 d4 d5 d6 g0 g1 g2 g3 g4 g5 g6
                  by_cases hlt : k < n
                  · obtain ⟨x, hx⟩ : ∃ x, a6[k]? = some x := ⟨_, List.getElem?_eq_getElem (by have := HLN.out; omega)⟩
                    obtain ⟨y, hy⟩ : ∃ y, b6[k]? = some y := ⟨_, List.getElem?_eq_getElem (by have := HRN.out; omega)⟩
                    obtain ⟨q1, o1, rfl, z0⟩ := rd_int ((HL.out.below HBEL.out).below HB.out) hx
                    obtain ⟨q2, o2, rfl, z1⟩ := rd_int ((HR.out.below HBEL.out).below HB.out) hy
                    have hts := all2_take (· == ·) a6 b6 k x y hx hy
                    rw [HG.out, Bool.true_and] at hts
                    have hno := all2_no (· == ·) a6 b6 k x y hx hy
                    have HTS := hide hts
                    have HNO := hide hno
                    have i1 : (0 : Int) ≤ (k : Int) := by omega
                    have i2 : (k : Int) < (n : Int) := by omega
                    clear hx hy hts hno
                    cases hb : (x == y) with
                    | false =>
                      have HF := hide hb
                      go_upto_region 6 with fail
                      go_region
                      all_goals go_wp2_with fail
                      all_goals go_ret
                      all_goals exact ⟨ret_bool (by rw [HNO.out HF.out]; simp), HBEL.out.trans (HB.out.drew.mono HBEL.out.size)⟩
                    | true =>
                      have HF := hide hb
                      go_upto_region 6 with fail
                      go_region
                      all_goals go_wp2_with fail
                      all_goals go_roundw
                      all_goals first
                        | exact ⟨k + 1, by go_num, by omega, hide (by rw [HTS.out, HF.out]), hide HB.out.drew⟩
                        | (simp [intOf]; omega)
                  · have hg := HG.out
                    rw [List.take_of_length_le (by have := HLN.out; omega), List.take_of_length_le (by have := HRN.out; omega)] at hg
                    have HA := hide hg
                    clear hg
                    go_wp2_with fail
                    go_ret
                    exact ⟨ret_bool (by rw [HA.out]; simp), HBEL.out.trans (HB.out.mono HBEL.out.size)⟩
              · have hno := all2_len (· == ·) a6 b6 (by have := HLN.out; have := HRN.out; omega)
                have HNO := hide hno
                have hne2 : ((n : Int) == (m : Int)) = false := by simp <;> omega
                clear hno
                go_enter Try.func60, Try.ntmps60
                go_wp2_with fail
                go_ret
                exact ⟨ret_bool (by rw [HNO.out]; try simp), HAL.out⟩
theorem refSame8_any (A : Option Addr) (c : Nat) (l : List BoxT) (B : Option Addr) (d : Nat) (r : List BoxT) (ok ok' : Nat → Prop) (w : World) (hl : boxK.Rd w ok A l.length l) (hr : boxK.Rd w ok' B r.length r) (hn : l.length ≤ 9223372036854775807) (hlen : ∀ x ∈ l, x.f6.length ≤ 9223372036854775807) :
    Calls Try.prog 29 #[.slice A l.length c, .slice B r.length d] w fun e w' => e = .returned (.bool (all2 boxEq l r)) ∧ Below w.heap.size w w' := by
  have HL := hide (hl.weaken (ok' := fun _ => True) (fun _ _ => trivial))
  have HR := hide (hr.weaken (ok' := fun _ => True) (fun _ _ => trivial))
  obtain ⟨n, hln⟩ : ∃ n, n = l.length := ⟨_, rfl⟩
  obtain ⟨m, hrn⟩ : ∃ m, m = r.length := ⟨_, rfl⟩
  rw [← hln] at HL hn ⊢
  rw [← hrn] at HR ⊢
  have HLN := hide hln
  have HRN := hide hrn
  have HLEN := hide hlen
  clear hl hr hln hrn hlen
  by_cases hnm : n = m
  · subst hnm
    go_enter Try.func29, Try.ntmps29
    go_wp2_with fail
    go_loopw [5] (fun t5 wr => ∃ k : Nat, t5 = .int .i64 k ∧ k ≤ n ∧ Hid (all2 boxEq (l.take k) (r.take k) = true) ∧ Hid (Below w.heap.size w wr)) (fun t5 _ => n - (intOf t5).toNat)
    case atStart => exact ⟨0, rfl, Nat.zero_le _, hide (by simp [all2]), hide (Below.refl _ _)⟩
    case round =>
      obtain ⟨k, rfl, hk, HG, HB⟩ := hrel
      by_cases hlt : k < n
      · obtain ⟨x, hx⟩ : ∃ x, l[k]? = some x := ⟨_, List.getElem?_eq_getElem (by have := HLN.out; omega)⟩
        obtain ⟨y, hy⟩ : ∃ y, r[k]? = some y := ⟨_, List.getElem?_eq_getElem (by have := HRN.out; omega)⟩
        obtain ⟨b1, o1, A5, c5, rfl, hr5, -, -, z0, z1, z2, z3, z4, z5, z6⟩ := box_cells (HL.out.below HB.out) hx
        obtain ⟨b2, o2, A6, c6, rfl, hr6, -, -, y0, y1, y2, y3, y4, y5, y6⟩ := box_cells (HR.out.below HB.out) hy
        have HR5 := hide (hr5.weaken (ok' := fun _ => True) (fun _ _ => trivial))
        have HR6 := hide (hr6.weaken (ok' := fun _ => True) (fun _ _ => trivial))
        have HL5 := hide (HLEN.out x (List.mem_of_getElem? hx))
        have hts := all2_take boxEq l r k x y hx hy
        rw [HG.out, Bool.true_and] at hts
        have hno := all2_no boxEq l r k x y hx hy
        have HTS := hide hts
        have HNO := hide hno
        have x0 := cell_after z0
        have x1 := cell_after z1
        have x2 := cell_after z2
        have x3 := cell_after z3
        have x4 := cell_after z4
        have x5 := cell_after z5
        have x6 := cell_after z6
        have v0 := cell_after y0
        have v1 := cell_after y1
        have v2 := cell_after y2
        have v3 := cell_after y3
        have v4 := cell_after y4
        have v5 := cell_after y5
        have v6 := cell_after y6
        have i1 : (0 : Int) ≤ (k : Int) := by omega
        have i2 : (k : Int) < (n : Int) := by omega
        obtain ⟨bq, hbq⟩ : ∃ bq, bq = boxEq x y := ⟨_, rfl⟩
        have HBQ := hide hbq
        have hcall : ∀ q : After wr, Calls Try.prog 60 #[.agg #[.int .i64 x.f0, .int .i64 x.f1, .int .i64 x.f2, .int .i64 x.f3, .string x.f4, .string x.f5, .slice A5 x.f6.length c5], .agg #[.int .i64 y.f0, .int .i64 y.f1, .int .i64 y.f2, .int .i64 y.f3, .string y.f4, .string y.f5, .slice A6 y.f6.length c6]] q.W fun e w' => e = .returned (.bool bq) ∧ ∃ q' : After wr, w' = q'.W := fun q => by
          rw [hbq]
          exact calls_after (refSameBox_any x y A5 c5 A6 c6 q.W (HR5.out.below q.h) (HR6.out.below q.h) HL5.out)
        have HCALL := hide hcall
        clear hx hy hts hno hr5 hr6 z0 z1 z2 z3 z4 z5 z6 y0 y1 y2 y3 y4 y5 y6 hbq hcall
        cases bq with
        | false =>
          go_upto_region 6 with fail
          refine wp_region_after (by kernel_rfl) (by kernel_rfl) ?_
          repeat (go_big_quiet_step (first | (go_at_call 60; with_reducible exact HCALL.out _)))
          refine wpQuiet_nil ?_
          intro _ hw'
          obtain ⟨q, rfl⟩ := hw'
          go_wp2_with fail
          go_ret
          exact ⟨ret_bool (HNO.out HBQ.out.symm).symm, HB.out.trans (q.h.mono HB.out.size)⟩
        | true =>
          go_upto_region 6 with fail
          refine wp_region_after (by kernel_rfl) (by kernel_rfl) ?_
          repeat (go_big_quiet_step (first | (go_at_call 60; with_reducible exact HCALL.out _)))
          refine wpQuiet_nil ?_
          intro _ hw'
          obtain ⟨q, rfl⟩ := hw'
          go_wp2_with fail
          go_roundw
          case rel => exact ⟨k + 1, by go_num, by omega, hide (by rw [HTS.out, ← HBQ.out]), hide (HB.out.trans (q.h.mono HB.out.size))⟩
          case measure => simp [intOf]; omega
      · have hg := HG.out
        rw [List.take_of_length_le (by have := HLN.out; omega), List.take_of_length_le (by have := HRN.out; omega)] at hg
        have HA := hide hg
        clear hg
        go_wp2_with fail
        go_ret
        exact ⟨ret_bool HA.out.symm, HB.out⟩
  · have hno := all2_len boxEq l r (by have := HLN.out; have := HRN.out; omega)
    have HNO := hide hno
    have hne2 : ((n : Int) == (m : Int)) = false := by simp <;> omega
    clear hno
    go_enter Try.func29, Try.ntmps29
    go_wp2_with fail
    go_ret
    exact ⟨ret_bool HNO.out.symm, Below.refl _ _⟩
end Go.Proofs.Ytekkjieoikgpmaa
