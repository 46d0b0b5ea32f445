/- The law TrapNothing: the walk. -/
import Derived.Test.YtpndigonlgnbeaaT20
set_option linter.unusedVariables false
set_option linter.unusedSimpArgs false
namespace Go.Proofs.Ytpndigonlgnbeaa
open Go.RowKit
set_option maxHeartbeats 3200000
set_option maxRecDepth 1000000

theorem three_blocks (w : World) (o1 o2 o3 : Obj) :
    (((w.alloc o1).alloc o2).alloc o3).heap[w.heap.size]? = some o1 ∧ (((w.alloc o1).alloc o2).alloc o3).heap[w.heap.size + 1]? = some o2 ∧ (((w.alloc o1).alloc o2).alloc o3).heap[w.heap.size + 1 + 1]? = some o3 ∧ Below w.heap.size w (((w.alloc o1).alloc o2).alloc o3) := by
  refine ⟨blk_alloc (blk_alloc (blk_new w o1) _) _, ?_, ?_, below_self (below_two _ _) (below_one _)⟩
  · have h := blk_alloc (blk_new (w.alloc o1) o2) o3
    simpa using h
  · have h := blk_new ((w.alloc o1).alloc o2) o3
    simpa using h

theorem TrapNothing_any (k a : Int) (s : ByteArray) (len : Int) (w : World) :
    Calls Try.prog 7 #[.agg #[.int .i64 k, .int .i64 a, .string s], .int .i64 len] w fun e w' => e = .returned (.bool true) ∧ Below w.heap.size w w' := by
  obtain ⟨z, hz⟩ : ∃ z : Nat, (z : Int) = (IntKind.u64.wrap k).tmod 4 ∧ z ≤ 3 := by
    have h0 : 0 ≤ IntKind.u64.wrap k := by rw [IntKind.wrap_u64]; omega
    refine ⟨((IntKind.u64.wrap k).tmod 4).toNat, ?_, ?_⟩
    · rw [Int.tmod_eq_emod_of_nonneg h0]; omega
    · rw [Int.tmod_eq_emod_of_nonneg h0]; omega
  obtain ⟨hz1, hz2⟩ := hz
  have hz1' := hz1.symm
  clear hz1
  go_enter Try.func7, Try.ntmps7
  go_upto_region 4 with fail
  clear hz1'
  have h3 := three_blocks w (Obj.cells #[Value.int IntKind.i64 z, Value.int IntKind.i64 a, Value.string s] 43) (Obj.cells #[Value.slice none 0 0, Value.bool false] 55) (Obj.cells #[Value.pointer none, Value.pointer (some { block := w.heap.size + 1, off := 0 })] 24)
  generalize (((w.alloc (Obj.cells #[Value.int IntKind.i64 z, Value.int IntKind.i64 a, Value.string s] 43)).alloc (Obj.cells #[Value.slice none 0 0, Value.bool false] 55)).alloc (Obj.cells #[Value.pointer none, Value.pointer (some { block := w.heap.size + 1, off := 0 })] 24)) = w1 at h3 ⊢
  obtain ⟨b1, b2, b3, hb⟩ := h3
  have B1 := hide b1
  have B2 := hide b2
  have B3 := hide b3
  have HB := hide hb
  clear b1 b2 b3 hb
  generalize hB : w.heap.size = B at B1 B2 B3 ⊢
  go_wp2_with fail
  go_loopw [7, 8, 9, 10, 11, 12] (fun t7 _ _ _ _ _ wr => ∃ i : Nat, t7 = .int .i64 i ∧ i ≤ 2 ∧ Hid (Below w1.heap.size w1 wr)) (fun t7 _ _ _ _ _ _ => 2 - (intOf t7).toNat)
  case atStart => exact ⟨0, rfl, by omega, hide (Below.refl _ _)⟩
  case round =>
    obtain ⟨i, rfl, hi, HK⟩ := hrel
    have l1 := blk_lt B1.out
    have l2 := blk_lt B2.out
    have l3 := blk_lt B3.out
    by_cases hi0 : i = 0
    · subst hi0
      have HN : Hid (NoTab wr (.pointer none)) := hide (NoTab.nil wr)
      have k1 := blk_below B1.out HK.out l1
      have k3 := blk_below B3.out HK.out l3
      have c3 : wr.cell? ⟨B + 1 + 1, 0, none⟩ = some (.pointer none) := by rw [blk_cell k3]; rfl
      have K1 := hide k1
      have K3 := hide k3
      clear k1 k3 l1 l2 l3
      go_upto_region 8 with (go_at_call 9; refine (Passed_no _ _ _ _ HN.out).mono ?_; rintro e w2 ⟨rfl, q⟩; have Q2 := hide q; clear q)
      have c3 : w2.cell? ⟨B + 1 + 1, 0, none⟩ = some (.pointer none) := by rw [blk_cell (blk_below K3.out Q2.out (blk_lt K3.out))]; rfl
      go_upto_region 9 with (go_at_call 17; refine (First_no _ _ _ _ (HN.out.below Q2.out)).mono ?_; rintro e w3 ⟨rfl, q⟩; have Q3 := hide (below_self Q2.out q); clear q)
      have k1 := blk_below K1.out Q3.out (blk_lt K1.out)
      have k3 := blk_below K3.out Q3.out (blk_lt K3.out)
      have c0 : w3.cell? ⟨B, 0, none⟩ = some (.int .i64 z) := by rw [blk_cell k1]; rfl
      have c1 : w3.cell? ⟨B, 1, none⟩ = some (.int .i64 a) := by rw [blk_cell k1]; rfl
      have c2 : w3.cell? ⟨B, 2, none⟩ = some (.string s) := by rw [blk_cell k1]; rfl
      have c3 : w3.cell? ⟨B + 1 + 1, 0, none⟩ = some (.pointer none) := by rw [blk_cell k3]; rfl
      have HN3 := hide (HN.out.below Q3.out)
      have C0 := cell_after c0
      have C1 := cell_after c1
      have C2 := cell_after c2
      have C3 := cell_after c3
      clear c0 c1 c2 c3 k1 k3
      refine wp_region_after (by kernel_rfl) (by kernel_rfl) ?_
      repeat (go_big_quiet_step ((first
        | (go_at_call 14; exact calls_after (do_no ⟨z, a, s⟩ _ (HN3.out.below (After.h _)) (Int.natCast_nonneg _) (by show (z : Int) ≤ 3; omega)))
        | (go_at_call 22; exact calls_after (All_no _ (HN3.out.below (After.h _))))
        | (go_at_call 10; exact calls_after (On_no _ _ (HN3.out.below (After.h _))))
        | (go_at_call 18; exact calls_after (Distance_no _ _ _ (HN3.out.below (After.h _))))
        | (go_at_call 20; exact calls_after (Copy_no _ (HN3.out.below (After.h _)))))))
      refine wpQuiet_nil ?_
      intro _ hw'
      obtain ⟨q, rfl⟩ := hw'
      have HQ := hide q.h
      clear C0 C1 C2 C3
      generalize q.W = wq at HQ ⊢
      go_wp2_with fail
      go_roundw
      case rel => exact ⟨1, by go_num, by omega, hide (below_self (below_self HK.out Q3.out) HQ.out)⟩
      case measure => simp [intOf]
    · by_cases hi1 : i = 1
      · subst hi1
        have HN : Hid (NoTab wr (.pointer (some ⟨B + 1, 0, none⟩))) := hide (NoTab.made (by rw [blk_cell (blk_below B2.out HK.out l2)]; rfl))
        have k1 := blk_below B1.out HK.out l1
        have k3 := blk_below B3.out HK.out l3
        have c3 : wr.cell? ⟨B + 1 + 1, 1, none⟩ = some (.pointer (some ⟨B + 1, 0, none⟩)) := by rw [blk_cell k3]; rfl
        have K1 := hide k1
        have K3 := hide k3
        clear k1 k3 l1 l2 l3
        go_upto_region 8 with (go_at_call 9; refine (Passed_no _ _ _ _ HN.out).mono ?_; rintro e w2 ⟨rfl, q⟩; have Q2 := hide q; clear q)
        have c3 : w2.cell? ⟨B + 1 + 1, 1, none⟩ = some (.pointer (some ⟨B + 1, 0, none⟩)) := by rw [blk_cell (blk_below K3.out Q2.out (blk_lt K3.out))]; rfl
        go_upto_region 9 with (go_at_call 17; refine (First_no _ _ _ _ (HN.out.below Q2.out)).mono ?_; rintro e w3 ⟨rfl, q⟩; have Q3 := hide (below_self Q2.out q); clear q)
        have k1 := blk_below K1.out Q3.out (blk_lt K1.out)
        have k3 := blk_below K3.out Q3.out (blk_lt K3.out)
        have c0 : w3.cell? ⟨B, 0, none⟩ = some (.int .i64 z) := by rw [blk_cell k1]; rfl
        have c1 : w3.cell? ⟨B, 1, none⟩ = some (.int .i64 a) := by rw [blk_cell k1]; rfl
        have c2 : w3.cell? ⟨B, 2, none⟩ = some (.string s) := by rw [blk_cell k1]; rfl
        have c3 : w3.cell? ⟨B + 1 + 1, 1, none⟩ = some (.pointer (some ⟨B + 1, 0, none⟩)) := by rw [blk_cell k3]; rfl
        have HN3 := hide (HN.out.below Q3.out)
        have C0 := cell_after c0
        have C1 := cell_after c1
        have C2 := cell_after c2
        have C3 := cell_after c3
        clear c0 c1 c2 c3 k1 k3
        refine wp_region_after (by kernel_rfl) (by kernel_rfl) ?_
        repeat (go_big_quiet_step ((first
          | (go_at_call 14; exact calls_after (do_no ⟨z, a, s⟩ _ (HN3.out.below (After.h _)) (Int.natCast_nonneg _) (by show (z : Int) ≤ 3; omega)))
          | (go_at_call 22; exact calls_after (All_no _ (HN3.out.below (After.h _))))
          | (go_at_call 10; exact calls_after (On_no _ _ (HN3.out.below (After.h _))))
          | (go_at_call 18; exact calls_after (Distance_no _ _ _ (HN3.out.below (After.h _))))
          | (go_at_call 20; exact calls_after (Copy_no _ (HN3.out.below (After.h _)))))))
        refine wpQuiet_nil ?_
        intro _ hw'
        obtain ⟨q, rfl⟩ := hw'
        have HQ := hide q.h
        clear C0 C1 C2 C3
        generalize q.W = wq at HQ ⊢
        go_wp2_with fail
        go_roundw
        case rel => exact ⟨2, by go_num, by omega, hide (below_self (below_self HK.out Q3.out) HQ.out)⟩
        case measure => simp [intOf]
      · have : i = 2 := by omega
        subst this
        clear hi hi0 hi1
        go_wp2_with (go_at_call 11; refine (sane_any _).mono ?_; rintro e w9 ⟨rfl, q⟩; have HQ := hide q; clear q)
        go_ret
        exact ⟨rfl, below_self (HB.out.trans (HK.out.mono HB.out.size)) HQ.out⟩
end Go.Proofs.Ytpndigonlgnbeaa
