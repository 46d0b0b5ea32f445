/- The law StoreNothing: the walk. -/
import Derived.Test.YtbchokjhbjnfcaaS13
set_option linter.unusedVariables false
set_option linter.unusedSimpArgs false
namespace Go.Proofs.Ytbchokjhbjnfcaa
open Go.RowKit
set_option maxHeartbeats 3200000
set_option maxRecDepth 1000000

theorem StoreNothing_any (x : DeedS) (A : Option Addr) (c : Nat) (w : World) (hx : deedK.K w (fun _ => True) x (x.cells A c)) (hnm : x.nm.size ≤ 9223372036854775807) :
    Calls Try.prog 6 #[.agg (x.cells A c).toArray] w fun e w' => e = .returned (.bool true) ∧ Below w.heap.size w w' := by
  obtain ⟨k, nm, ot, tx, lines, a, b⟩ := x
  obtain ⟨z, hz, hz2⟩ : ∃ z : Nat, (IntKind.u64.wrap k).tmod 9 = (z : Int) ∧ z ≤ 8 := by
    have h0 : 0 ≤ IntKind.u64.wrap k := by rw [IntKind.wrap_u64]; omega
    refine ⟨((IntKind.u64.wrap k).tmod 9).toNat, ?_, ?_⟩ <;> (rw [Int.tmod_eq_emod_of_nonneg h0]; omega)
  have HZ := hide hz
  have HX := hide hx
  clear hz hx
  have hal : Below w.heap.size w ((w.alloc (.cells #[.int .i64 k, .string nm, .string ot, .string tx, .slice A lines.length c, .int .i64 a, .int .i64 b] 44)).alloc (.cells #[.int .i64 k, .string nm, .string ot, .string tx, .slice A lines.length c, .int .i64 a, .int .i64 b] 44)) := below_two _ _
  have hb1 : ((w.alloc (.cells #[.int .i64 k, .string nm, .string ot, .string tx, .slice A lines.length c, .int .i64 a, .int .i64 b] 44)).alloc (.cells #[.int .i64 k, .string nm, .string ot, .string tx, .slice A lines.length c, .int .i64 a, .int .i64 b] 44)).heap[w.heap.size]? = some (.cells #[.int .i64 k, .string nm, .string ot, .string tx, .slice A lines.length c, .int .i64 a, .int .i64 b] 44 (0, 0)) := blk_alloc (blk_new w _) _
  have hb2 : ((w.alloc (.cells #[.int .i64 k, .string nm, .string ot, .string tx, .slice A lines.length c, .int .i64 a, .int .i64 b] 44)).alloc (.cells #[.int .i64 k, .string nm, .string ot, .string tx, .slice A lines.length c, .int .i64 a, .int .i64 b] 44)).heap[w.heap.size + 1]? = some (.cells #[.int .i64 k, .string nm, .string ot, .string tx, .slice A lines.length c, .int .i64 a, .int .i64 b] 44 (0, 0)) := by
    have h := blk_new (w.alloc (.cells #[.int .i64 k, .string nm, .string ot, .string tx, .slice A lines.length c, .int .i64 a, .int .i64 b] 44)) (.cells #[.int .i64 k, .string nm, .string ot, .string tx, .slice A lines.length c, .int .i64 a, .int .i64 b] 44)
    simpa using h
  have hrd : deedK.Rd ((w.alloc (.cells #[.int .i64 k, .string nm, .string ot, .string tx, .slice A lines.length c, .int .i64 a, .int .i64 b] 44)).alloc (.cells #[.int .i64 k, .string nm, .string ot, .string tx, .slice A lines.length c, .int .i64 a, .int .i64 b] 44)) (fun _ => True) (some ⟨w.heap.size + 1, 0, none⟩) 1 [⟨k, nm, ot, tx, lines, a, b⟩] := by
    refine ⟨rfl, fun _ => ⟨_, 0, rfl, trivial, blk_lt hb2, fun i y hy => ?_⟩⟩
    have hi : i = 0 := by
      have := (List.getElem?_eq_some_iff.1 hy).1
      simp at this
      exact this
    subst hi
    injection hy with hy
    subst hy
    refine ⟨_, Kind.below HX.out hal, fun j u hu => ?_⟩
    rw [blk_cell hb2]
    have e : 0 + 0 * deedK.sz + j = j := by omega
    rw [e]
    simpa [DeedS.cells] using hu
  have HAL := hide hal
  have HB1 := hide hb1
  have HRD := hide hrd
  clear hal hb1 hb2 hrd
  show Calls Try.prog 6 #[.agg #[.int .i64 k, .string nm, .string ot, .string tx, .slice A lines.length c, .int .i64 a, .int .i64 b]] w _
  go_enter Try.func6, Try.ntmps6
  go_upto_if 14 with (go_at_call 22; refine (big_any _ 1 1 _ _ _ HRD.out (by omega)).mono ?_; rintro e w2 ⟨⟨r, rfl⟩, q⟩; have HB2 := hide (below_self HAL.out q); have HBK := hide (blk_below HB1.out q (blk_lt HB1.out)); clear q)
  clear HAL HB1 HRD HX
  cases r with
  | true =>
    go_wp2_with (go_at_call 9; refine (sane_any _).mono ?_; rintro e w9 ⟨rfl, q⟩; have HQ := hide (below_self HB2.out q); clear q)
    go_ret
    exact ⟨rfl, HQ.out⟩
  | false =>
  have hz := HZ.out
  have z0 : w2.cell? ⟨w.heap.size, 0, none⟩ = some (.int .i64 k) := by rw [blk_cell HBK.out]; rfl
  have zf : w2.frozen? ⟨w.heap.size, 0, none⟩ = false := blk_frozen HBK.out
  go_upto_region 6 with fail
  clear z0 zf hz
  have b1 : (((w2.setCell ⟨w.heap.size, 0, none⟩ (.int .i64 z)).alloc (.cells #[.map none] 49)).alloc (.cells #[.pointer none, .pointer (some ⟨w2.heap.size, 0, none⟩)] 24)).heap[w.heap.size]? = some (.cells #[.int .i64 z, .string nm, .string ot, .string tx, .slice A lines.length c, .int .i64 a, .int .i64 b] 44 (0, 0)) := blk_alloc (blk_alloc (blk_set HBK.out 0 (.int .i64 z)) _) _
  have hsz : (w2.setCell ⟨w.heap.size, 0, none⟩ (.int .i64 z)).heap.size = w2.heap.size := by simp [World.setCell]
  have b2 : (((w2.setCell ⟨w.heap.size, 0, none⟩ (.int .i64 z)).alloc (.cells #[.map none] 49)).alloc (.cells #[.pointer none, .pointer (some ⟨w2.heap.size, 0, none⟩)] 24)).heap[w2.heap.size]? = some (.cells #[.map none] 49 (0, 0)) := by
    have h := blk_alloc (blk_new (w2.setCell ⟨w.heap.size, 0, none⟩ (.int .i64 z)) (.cells #[.map none] 49)) (.cells #[.pointer none, .pointer (some ⟨w2.heap.size, 0, none⟩)] 24)
    rw [hsz] at h
    exact h
  have b3 : (((w2.setCell ⟨w.heap.size, 0, none⟩ (.int .i64 z)).alloc (.cells #[.map none] 49)).alloc (.cells #[.pointer none, .pointer (some ⟨w2.heap.size, 0, none⟩)] 24)).heap[w2.heap.size + 1]? = some (.cells #[.pointer none, .pointer (some ⟨w2.heap.size, 0, none⟩)] 24 (0, 0)) := by
    have h := blk_new ((w2.setCell ⟨w.heap.size, 0, none⟩ (.int .i64 z)).alloc (.cells #[.map none] 49)) (.cells #[.pointer none, .pointer (some ⟨w2.heap.size, 0, none⟩)] 24)
    have e : ((w2.setCell ⟨w.heap.size, 0, none⟩ (.int .i64 z)).alloc (.cells #[.map none] 49)).heap.size = w2.heap.size + 1 := by simp [World.setCell]
    rw [e] at h
    exact h
  have hbw : Below w.heap.size w (((w2.setCell ⟨w.heap.size, 0, none⟩ (.int .i64 z)).alloc (.cells #[.map none] 49)).alloc (.cells #[.pointer none, .pointer (some ⟨w2.heap.size, 0, none⟩)] 24)) := ((Below.setCell HB2.out (Nat.le_refl _) _).alloc (by rw [hsz]; exact HB2.out.size) _).alloc (by simp [World.setCell]; have := HB2.out.size; omega) _
  generalize (((w2.setCell ⟨w.heap.size, 0, none⟩ (.int .i64 z)).alloc (.cells #[.map none] 49)).alloc (.cells #[.pointer none, .pointer (some ⟨w2.heap.size, 0, none⟩)] 24)) = w3 at b1 b2 b3 hbw ⊢
  have B1 := hide b1
  have B2 := hide b2
  have B3 := hide b3
  have HBW := hide hbw
  clear b1 b2 b3 hbw hsz HB2 HBK HZ
  generalize w.heap.size = D at B1 ⊢
  generalize w2.heap.size = G at B2 B3 ⊢
  go_wp2_with fail
  go_loopw [5, 6, 7, 8, 9, 10, 11] (fun t5 _ _ _ _ _ _ wr => ∃ i : Nat, t5 = .int .i64 i ∧ i ≤ 2 ∧ Hid (Below w3.heap.size w3 wr)) (fun t5 _ _ _ _ _ _ _ => 2 - (intOf t5).toNat)
  case atStart => exact ⟨0, rfl, by omega, hide (Below.refl _ _)⟩
  case round =>
    obtain ⟨i, rfl, hi, HK⟩ := hrel
    have l1 := blk_lt B1.out
    have l2 := blk_lt B2.out
    have l3 := blk_lt B3.out
    by_cases hi0 : i = 0
    · subst hi0
      have HN0 : Hid (NoSto wr (.pointer none)) := hide (NoSto.nil wr)
      clear l1 l2 l3
      go_upto_region 9 with fail
      have k1 := blk_below B1.out HK.out (blk_lt B1.out)
      have k3 := blk_below B3.out HK.out (blk_lt B3.out)
      have c0 : wr.cell? ⟨D, 0, none⟩ = some (.int .i64 z) := by rw [blk_cell k1]; rfl
      have c1 : wr.cell? ⟨D, 1, none⟩ = some (.string nm) := by rw [blk_cell k1]; rfl
      have c2 : wr.cell? ⟨D, 2, none⟩ = some (.string ot) := by rw [blk_cell k1]; rfl
      have c3 : wr.cell? ⟨D, 3, none⟩ = some (.string tx) := by rw [blk_cell k1]; rfl
      have c4 : wr.cell? ⟨D, 4, none⟩ = some (.slice A lines.length c) := by rw [blk_cell k1]; rfl
      have c5 : wr.cell? ⟨D, 5, none⟩ = some (.int .i64 a) := by rw [blk_cell k1]; rfl
      have c6 : wr.cell? ⟨D, 6, none⟩ = some (.int .i64 b) := by rw [blk_cell k1]; rfl
      have c7 : wr.cell? ⟨G + 1, 0, none⟩ = some (.pointer none) := by rw [blk_cell k3]; rfl
      have HN := hide (show NoSto wr (.pointer none) from HN0.out.below (Below.refl _ _))
      have C0 := cell_after c0
      have C1 := cell_after c1
      have C2 := cell_after c2
      have C3 := cell_after c3
      have C4 := cell_after c4
      have C5 := cell_after c5
      have C6 := cell_after c6
      have C7 := cell_after c7
      clear c0 c1 c2 c3 c4 c5 c6 c7 k1 k3
      refine wp_region_after (by kernel_rfl) (by kernel_rfl) ?_
      repeat (go_big_quiet_step ((go_at_call 13; exact calls_after (Text_no nm _ (HN.out.below (After.h _))))))
      refine wpQuiet_nil ?_
      intro _ hw'
      obtain ⟨q, rfl⟩ := hw'
      have HQ0 := hide q.h
      clear C0 C1 C2 C3 C4 C5 C6 C7 HN
      generalize q.W = wq0 at HQ0 ⊢
      have HK0 := hide (below_self HK.out HQ0.out)
      have HS0 := hide (show Below wr.heap.size wr wq0 from HQ0.out)
      go_upto_region 10 with fail
      have k1 := blk_below B1.out HK0.out (blk_lt B1.out)
      have k3 := blk_below B3.out HK0.out (blk_lt B3.out)
      have c0 : wq0.cell? ⟨D, 0, none⟩ = some (.int .i64 z) := by rw [blk_cell k1]; rfl
      have c1 : wq0.cell? ⟨D, 1, none⟩ = some (.string nm) := by rw [blk_cell k1]; rfl
      have c2 : wq0.cell? ⟨D, 2, none⟩ = some (.string ot) := by rw [blk_cell k1]; rfl
      have c3 : wq0.cell? ⟨D, 3, none⟩ = some (.string tx) := by rw [blk_cell k1]; rfl
      have c4 : wq0.cell? ⟨D, 4, none⟩ = some (.slice A lines.length c) := by rw [blk_cell k1]; rfl
      have c5 : wq0.cell? ⟨D, 5, none⟩ = some (.int .i64 a) := by rw [blk_cell k1]; rfl
      have c6 : wq0.cell? ⟨D, 6, none⟩ = some (.int .i64 b) := by rw [blk_cell k1]; rfl
      have c7 : wq0.cell? ⟨G + 1, 0, none⟩ = some (.pointer none) := by rw [blk_cell k3]; rfl
      have HN := hide (show NoSto wq0 (.pointer none) from HN0.out.below (HS0.out))
      have C0 := cell_after c0
      have C1 := cell_after c1
      have C2 := cell_after c2
      have C3 := cell_after c3
      have C4 := cell_after c4
      have C5 := cell_after c5
      have C6 := cell_after c6
      have C7 := cell_after c7
      clear c0 c1 c2 c3 c4 c5 c6 c7 k1 k3
      refine wp_region_after (by kernel_rfl) (by kernel_rfl) ?_
      repeat (go_big_quiet_step ((go_at_call 20; exact calls_after (Lines_no nm _ (HN.out.below (After.h _))))))
      refine wpQuiet_nil ?_
      intro _ hw'
      obtain ⟨q, rfl⟩ := hw'
      have HQ1 := hide q.h
      clear C0 C1 C2 C3 C4 C5 C6 C7 HN
      generalize q.W = wq1 at HQ1 ⊢
      have HK1 := hide (below_self HK0.out HQ1.out)
      have HS1 := hide (show Below wr.heap.size wr wq1 from below_self (HQ0.out) HQ1.out)
      go_upto_region 11 with fail
      have k1 := blk_below B1.out HK1.out (blk_lt B1.out)
      have k3 := blk_below B3.out HK1.out (blk_lt B3.out)
      have c0 : wq1.cell? ⟨D, 0, none⟩ = some (.int .i64 z) := by rw [blk_cell k1]; rfl
      have c1 : wq1.cell? ⟨D, 1, none⟩ = some (.string nm) := by rw [blk_cell k1]; rfl
      have c2 : wq1.cell? ⟨D, 2, none⟩ = some (.string ot) := by rw [blk_cell k1]; rfl
      have c3 : wq1.cell? ⟨D, 3, none⟩ = some (.string tx) := by rw [blk_cell k1]; rfl
      have c4 : wq1.cell? ⟨D, 4, none⟩ = some (.slice A lines.length c) := by rw [blk_cell k1]; rfl
      have c5 : wq1.cell? ⟨D, 5, none⟩ = some (.int .i64 a) := by rw [blk_cell k1]; rfl
      have c6 : wq1.cell? ⟨D, 6, none⟩ = some (.int .i64 b) := by rw [blk_cell k1]; rfl
      have c7 : wq1.cell? ⟨G + 1, 0, none⟩ = some (.pointer none) := by rw [blk_cell k3]; rfl
      have HN := hide (show NoSto wq1 (.pointer none) from HN0.out.below (HS1.out))
      have C0 := cell_after c0
      have C1 := cell_after c1
      have C2 := cell_after c2
      have C3 := cell_after c3
      have C4 := cell_after c4
      have C5 := cell_after c5
      have C6 := cell_after c6
      have C7 := cell_after c7
      clear c0 c1 c2 c3 c4 c5 c6 c7 k1 k3
      refine wp_region_after (by kernel_rfl) (by kernel_rfl) ?_
      repeat (go_big_quiet_step ((go_at_call 23; exact calls_after (Length_no nm _ (HN.out.below (After.h _))))))
      refine wpQuiet_nil ?_
      intro _ hw'
      obtain ⟨q, rfl⟩ := hw'
      have HQ2 := hide q.h
      clear C0 C1 C2 C3 C4 C5 C6 C7 HN
      generalize q.W = wq2 at HQ2 ⊢
      have HK2 := hide (below_self HK1.out HQ2.out)
      have HS2 := hide (show Below wr.heap.size wr wq2 from below_self (below_self (HQ0.out) HQ1.out) HQ2.out)
      go_upto_region 12 with fail
      have k1 := blk_below B1.out HK2.out (blk_lt B1.out)
      have k3 := blk_below B3.out HK2.out (blk_lt B3.out)
      have c0 : wq2.cell? ⟨D, 0, none⟩ = some (.int .i64 z) := by rw [blk_cell k1]; rfl
      have c1 : wq2.cell? ⟨D, 1, none⟩ = some (.string nm) := by rw [blk_cell k1]; rfl
      have c2 : wq2.cell? ⟨D, 2, none⟩ = some (.string ot) := by rw [blk_cell k1]; rfl
      have c3 : wq2.cell? ⟨D, 3, none⟩ = some (.string tx) := by rw [blk_cell k1]; rfl
      have c4 : wq2.cell? ⟨D, 4, none⟩ = some (.slice A lines.length c) := by rw [blk_cell k1]; rfl
      have c5 : wq2.cell? ⟨D, 5, none⟩ = some (.int .i64 a) := by rw [blk_cell k1]; rfl
      have c6 : wq2.cell? ⟨D, 6, none⟩ = some (.int .i64 b) := by rw [blk_cell k1]; rfl
      have c7 : wq2.cell? ⟨G + 1, 0, none⟩ = some (.pointer none) := by rw [blk_cell k3]; rfl
      have HN := hide (show NoSto wq2 (.pointer none) from HN0.out.below (HS2.out))
      have C0 := cell_after c0
      have C1 := cell_after c1
      have C2 := cell_after c2
      have C3 := cell_after c3
      have C4 := cell_after c4
      have C5 := cell_after c5
      have C6 := cell_after c6
      have C7 := cell_after c7
      clear c0 c1 c2 c3 c4 c5 c6 c7 k1 k3
      refine wp_region_after (by kernel_rfl) (by kernel_rfl) ?_
      repeat (go_big_quiet_step ((first | (go_at_call 24; exact calls_after (do_no z nm ot tx A lines.length c a b _ (HN.out.below (After.h _)) (Int.natCast_nonneg _) (by omega))) | (go_at_call 25; exact calls_after (Kind_no nm _ (HN.out.below (After.h _)))) | (go_at_call 26; exact calls_after (Names_no  _ (HN.out.below (After.h _)))) | (go_at_call 27; exact calls_after (Copy_no  _ (HN.out.below (After.h _)))))))
      refine wpQuiet_nil ?_
      intro _ hw'
      obtain ⟨q, rfl⟩ := hw'
      have HQ3 := hide q.h
      clear C0 C1 C2 C3 C4 C5 C6 C7 HN
      generalize q.W = wq3 at HQ3 ⊢
      have HK3 := hide (below_self HK2.out HQ3.out)
      go_wp2_with fail
      go_roundw
      case rel => exact ⟨1, by go_num, by omega, HK3⟩
      case measure => simp [intOf]
    · by_cases hi1 : i = 1
      · subst hi1
        have HN0 : Hid (NoSto wr (.pointer (some ⟨G, 0, none⟩))) := hide (NoSto.made (by rw [blk_cell (blk_below B2.out HK.out l2)]; rfl))
        clear l1 l2 l3
        go_upto_region 9 with fail
        have k1 := blk_below B1.out HK.out (blk_lt B1.out)
        have k3 := blk_below B3.out HK.out (blk_lt B3.out)
        have c0 : wr.cell? ⟨D, 0, none⟩ = some (.int .i64 z) := by rw [blk_cell k1]; rfl
        have c1 : wr.cell? ⟨D, 1, none⟩ = some (.string nm) := by rw [blk_cell k1]; rfl
        have c2 : wr.cell? ⟨D, 2, none⟩ = some (.string ot) := by rw [blk_cell k1]; rfl
        have c3 : wr.cell? ⟨D, 3, none⟩ = some (.string tx) := by rw [blk_cell k1]; rfl
        have c4 : wr.cell? ⟨D, 4, none⟩ = some (.slice A lines.length c) := by rw [blk_cell k1]; rfl
        have c5 : wr.cell? ⟨D, 5, none⟩ = some (.int .i64 a) := by rw [blk_cell k1]; rfl
        have c6 : wr.cell? ⟨D, 6, none⟩ = some (.int .i64 b) := by rw [blk_cell k1]; rfl
        have c7 : wr.cell? ⟨G + 1, 1, none⟩ = some (.pointer (some ⟨G, 0, none⟩)) := by rw [blk_cell k3]; rfl
        have HN := hide (show NoSto wr (.pointer (some ⟨G, 0, none⟩)) from HN0.out.below (Below.refl _ _))
        have C0 := cell_after c0
        have C1 := cell_after c1
        have C2 := cell_after c2
        have C3 := cell_after c3
        have C4 := cell_after c4
        have C5 := cell_after c5
        have C6 := cell_after c6
        have C7 := cell_after c7
        clear c0 c1 c2 c3 c4 c5 c6 c7 k1 k3
        refine wp_region_after (by kernel_rfl) (by kernel_rfl) ?_
        repeat (go_big_quiet_step ((go_at_call 13; exact calls_after (Text_no nm _ (HN.out.below (After.h _))))))
        refine wpQuiet_nil ?_
        intro _ hw'
        obtain ⟨q, rfl⟩ := hw'
        have HQ0 := hide q.h
        clear C0 C1 C2 C3 C4 C5 C6 C7 HN
        generalize q.W = wq0 at HQ0 ⊢
        have HK0 := hide (below_self HK.out HQ0.out)
        have HS0 := hide (show Below wr.heap.size wr wq0 from HQ0.out)
        go_upto_region 10 with fail
        have k1 := blk_below B1.out HK0.out (blk_lt B1.out)
        have k3 := blk_below B3.out HK0.out (blk_lt B3.out)
        have c0 : wq0.cell? ⟨D, 0, none⟩ = some (.int .i64 z) := by rw [blk_cell k1]; rfl
        have c1 : wq0.cell? ⟨D, 1, none⟩ = some (.string nm) := by rw [blk_cell k1]; rfl
        have c2 : wq0.cell? ⟨D, 2, none⟩ = some (.string ot) := by rw [blk_cell k1]; rfl
        have c3 : wq0.cell? ⟨D, 3, none⟩ = some (.string tx) := by rw [blk_cell k1]; rfl
        have c4 : wq0.cell? ⟨D, 4, none⟩ = some (.slice A lines.length c) := by rw [blk_cell k1]; rfl
        have c5 : wq0.cell? ⟨D, 5, none⟩ = some (.int .i64 a) := by rw [blk_cell k1]; rfl
        have c6 : wq0.cell? ⟨D, 6, none⟩ = some (.int .i64 b) := by rw [blk_cell k1]; rfl
        have c7 : wq0.cell? ⟨G + 1, 1, none⟩ = some (.pointer (some ⟨G, 0, none⟩)) := by rw [blk_cell k3]; rfl
        have HN := hide (show NoSto wq0 (.pointer (some ⟨G, 0, none⟩)) from HN0.out.below (HS0.out))
        have C0 := cell_after c0
        have C1 := cell_after c1
        have C2 := cell_after c2
        have C3 := cell_after c3
        have C4 := cell_after c4
        have C5 := cell_after c5
        have C6 := cell_after c6
        have C7 := cell_after c7
        clear c0 c1 c2 c3 c4 c5 c6 c7 k1 k3
        refine wp_region_after (by kernel_rfl) (by kernel_rfl) ?_
        repeat (go_big_quiet_step ((go_at_call 20; exact calls_after (Lines_no nm _ (HN.out.below (After.h _))))))
        refine wpQuiet_nil ?_
        intro _ hw'
        obtain ⟨q, rfl⟩ := hw'
        have HQ1 := hide q.h
        clear C0 C1 C2 C3 C4 C5 C6 C7 HN
        generalize q.W = wq1 at HQ1 ⊢
        have HK1 := hide (below_self HK0.out HQ1.out)
        have HS1 := hide (show Below wr.heap.size wr wq1 from below_self (HQ0.out) HQ1.out)
        go_upto_region 11 with fail
        have k1 := blk_below B1.out HK1.out (blk_lt B1.out)
        have k3 := blk_below B3.out HK1.out (blk_lt B3.out)
        have c0 : wq1.cell? ⟨D, 0, none⟩ = some (.int .i64 z) := by rw [blk_cell k1]; rfl
        have c1 : wq1.cell? ⟨D, 1, none⟩ = some (.string nm) := by rw [blk_cell k1]; rfl
        have c2 : wq1.cell? ⟨D, 2, none⟩ = some (.string ot) := by rw [blk_cell k1]; rfl
        have c3 : wq1.cell? ⟨D, 3, none⟩ = some (.string tx) := by rw [blk_cell k1]; rfl
        have c4 : wq1.cell? ⟨D, 4, none⟩ = some (.slice A lines.length c) := by rw [blk_cell k1]; rfl
        have c5 : wq1.cell? ⟨D, 5, none⟩ = some (.int .i64 a) := by rw [blk_cell k1]; rfl
        have c6 : wq1.cell? ⟨D, 6, none⟩ = some (.int .i64 b) := by rw [blk_cell k1]; rfl
        have c7 : wq1.cell? ⟨G + 1, 1, none⟩ = some (.pointer (some ⟨G, 0, none⟩)) := by rw [blk_cell k3]; rfl
        have HN := hide (show NoSto wq1 (.pointer (some ⟨G, 0, none⟩)) from HN0.out.below (HS1.out))
        have C0 := cell_after c0
        have C1 := cell_after c1
        have C2 := cell_after c2
        have C3 := cell_after c3
        have C4 := cell_after c4
        have C5 := cell_after c5
        have C6 := cell_after c6
        have C7 := cell_after c7
        clear c0 c1 c2 c3 c4 c5 c6 c7 k1 k3
        refine wp_region_after (by kernel_rfl) (by kernel_rfl) ?_
        repeat (go_big_quiet_step ((go_at_call 23; exact calls_after (Length_no nm _ (HN.out.below (After.h _))))))
        refine wpQuiet_nil ?_
        intro _ hw'
        obtain ⟨q, rfl⟩ := hw'
        have HQ2 := hide q.h
        clear C0 C1 C2 C3 C4 C5 C6 C7 HN
        generalize q.W = wq2 at HQ2 ⊢
        have HK2 := hide (below_self HK1.out HQ2.out)
        have HS2 := hide (show Below wr.heap.size wr wq2 from below_self (below_self (HQ0.out) HQ1.out) HQ2.out)
        go_upto_region 12 with fail
        have k1 := blk_below B1.out HK2.out (blk_lt B1.out)
        have k3 := blk_below B3.out HK2.out (blk_lt B3.out)
        have c0 : wq2.cell? ⟨D, 0, none⟩ = some (.int .i64 z) := by rw [blk_cell k1]; rfl
        have c1 : wq2.cell? ⟨D, 1, none⟩ = some (.string nm) := by rw [blk_cell k1]; rfl
        have c2 : wq2.cell? ⟨D, 2, none⟩ = some (.string ot) := by rw [blk_cell k1]; rfl
        have c3 : wq2.cell? ⟨D, 3, none⟩ = some (.string tx) := by rw [blk_cell k1]; rfl
        have c4 : wq2.cell? ⟨D, 4, none⟩ = some (.slice A lines.length c) := by rw [blk_cell k1]; rfl
        have c5 : wq2.cell? ⟨D, 5, none⟩ = some (.int .i64 a) := by rw [blk_cell k1]; rfl
        have c6 : wq2.cell? ⟨D, 6, none⟩ = some (.int .i64 b) := by rw [blk_cell k1]; rfl
        have c7 : wq2.cell? ⟨G + 1, 1, none⟩ = some (.pointer (some ⟨G, 0, none⟩)) := by rw [blk_cell k3]; rfl
        have HN := hide (show NoSto wq2 (.pointer (some ⟨G, 0, none⟩)) from HN0.out.below (HS2.out))
        have C0 := cell_after c0
        have C1 := cell_after c1
        have C2 := cell_after c2
        have C3 := cell_after c3
        have C4 := cell_after c4
        have C5 := cell_after c5
        have C6 := cell_after c6
        have C7 := cell_after c7
        clear c0 c1 c2 c3 c4 c5 c6 c7 k1 k3
        refine wp_region_after (by kernel_rfl) (by kernel_rfl) ?_
        repeat (go_big_quiet_step ((first | (go_at_call 24; exact calls_after (do_no z nm ot tx A lines.length c a b _ (HN.out.below (After.h _)) (Int.natCast_nonneg _) (by omega))) | (go_at_call 25; exact calls_after (Kind_no nm _ (HN.out.below (After.h _)))) | (go_at_call 26; exact calls_after (Names_no  _ (HN.out.below (After.h _)))) | (go_at_call 27; exact calls_after (Copy_no  _ (HN.out.below (After.h _)))))))
        refine wpQuiet_nil ?_
        intro _ hw'
        obtain ⟨q, rfl⟩ := hw'
        have HQ3 := hide q.h
        clear C0 C1 C2 C3 C4 C5 C6 C7 HN
        generalize q.W = wq3 at HQ3 ⊢
        have HK3 := hide (below_self HK2.out HQ3.out)
        go_wp2_with fail
        go_roundw
        case rel => exact ⟨2, by go_num, by omega, HK3⟩
        case measure => simp [intOf]
      · have : i = 2 := by omega
        subst this
        clear hi hi0 hi1
        go_wp2_with (go_at_call 9; refine (sane_any _).mono ?_; rintro e w9 ⟨rfl, q⟩; have HQ := hide q; clear q)
        go_ret
        exact ⟨rfl, HBW.out.trans ((below_self HK.out HQ.out).mono (by have := HBW.out.size; omega))⟩
end Go.Proofs.Ytbchokjhbjnfcaa
