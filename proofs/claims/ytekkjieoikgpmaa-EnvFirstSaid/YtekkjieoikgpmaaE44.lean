/- The reference's Valid of stops. -/
import Derived.Test.YtekkjieoikgpmaaE42
import Derived.BigQuiet
set_option linter.unusedVariables false
set_option linter.unusedSimpArgs false
namespace Go.Proofs.Ytekkjieoikgpmaa
open Go.RowKit
set_option maxHeartbeats 3200000
set_option maxRecDepth 1000000

theorem inB_three (b : UInt8) : inB [76, 82, 67] b = (decide ((b.toNat : Int) = 76) || (decide ((b.toNat : Int) = 82) || decide ((b.toNat : Int) = 67))) := by
  have h : ∀ n : Fin 256, inB [76, 82, 67] (UInt8.ofNat n.val) = (decide (((UInt8.ofNat n.val).toNat : Int) = 76) || (decide (((UInt8.ofNat n.val).toNat : Int) = 82) || decide (((UInt8.ofNat n.val).toNat : Int) = 67))) := by decide
  have := h ⟨b.toNat, b.toNat_lt⟩
  rwa [show UInt8.ofNat b.toNat = b from UInt8.ofNat_toNat] at this
def stopOk (last : Int) (x : StopT) : Bool := decide (last < x.at_) && (decide (x.at_ ≤ 1000000) && inB [76, 82, 67] x.kind)
theorem stopsFrom_next {l : List StopT} {k : Nat} {x : StopT} (last : Int) (hx : l[k]? = some x) : stopsFrom last (l.drop k) = (stopOk last x && stopsFrom x.at_ (l.drop (k + 1))) := by
  obtain ⟨hlk, rfl⟩ := List.getElem?_eq_some_iff.1 hx
  rw [List.drop_eq_getElem_cons hlk]
  unfold stopOk
  simp only [stopsFrom, Bool.and_assoc]
theorem refStops_any (A : Option Addr) (c : Nat) (l : List StopT) (every : Int) (ok : Nat → Prop) (w : World) (hr : stopK.Rd w ok A l.length l) (hn : l.length ≤ 9223372036854775807) :
    Calls Try.prog 42 #[.agg #[.slice A l.length c, .int .i64 every]] w fun e w' => e = .returned (.bool (stopsB l every)) ∧ Below w.heap.size w w' := by
  have HR := hide hr
  obtain ⟨n, hln⟩ : ∃ n, n = l.length := ⟨_, rfl⟩
  rw [← hln] at HR hn ⊢
  have HLN := hide hln
  have hsb : Hid (stopsB l every = (stopsFrom (-1) l && (decide (l.length ≤ 40) && withinB every 0 1000000))) := hide rfl
  clear hr hln
  go_enter Try.func42, Try.ntmps42
  go_upto_region 1 with fail
  refine wp_one ?_
  intro W0 hb hbel hsz
  have HB := hide hb
  have HBEL := hide hbel
  have HRW := hide (HR.out.below hbel)
  clear hb hbel hsz
  go_wp2_with fail
  go_loopw [3] (fun t3 wr => ∃ (k : Nat) (last : Int), t3 = .int .i64 k ∧ k ≤ n ∧ Hid ((k = 0 ∧ last = -1) ∨ (0 ≤ last ∧ ∃ j y, k = j + 1 ∧ l[j]? = some y ∧ y.at_ = last)) ∧ Hid (stopsFrom (-1) l = stopsFrom last (l.drop k)) ∧ Hid (Below W0.heap.size W0 wr)) (fun t3 _ => n - (intOf t3).toNat)
  case atStart => exact ⟨0, -1, rfl, Nat.zero_le _, hide (.inl ⟨rfl, rfl⟩), hide rfl, hide (Below.refl _ _)⟩
  case round =>
    obtain ⟨k, last, rfl, hk, HL, HS, HB2⟩ := hrel
    have hbk := blk_below HB.out HB2.out (blk_lt HB.out)
    have d0 : wr.cell? ⟨w.heap.size, 0, none⟩ = some (.slice A n c) := by rw [blk_cell hbk]; rfl
    have d1 : wr.cell? ⟨w.heap.size, 1, none⟩ = some (.int .i64 every) := by rw [blk_cell hbk]; rfl
    clear hbk
    by_cases hlt : k < n
    · obtain ⟨x, hx⟩ : ∃ x, l[k]? = some x := ⟨_, List.getElem?_eq_getElem (by have := HLN.out; omega)⟩
      have hst := stopsFrom_next last hx
      have HST := hide hst
      have HX := hide hx
      obtain ⟨b, off, rfl, -, z0, z1⟩ := rd_stop (HRW.out.below HB2.out) hx
      obtain ⟨at0, kd⟩ := x
      have i1 : (0 : Int) ≤ (k : Int) := by omega
      have i2 : (k : Int) < (n : Int) := by omega
      clear hst hx
      go_upto_region 5 with fail
      refine wp_one ?_
      intro W1 hb1 hbel1 hsz1
      have e0 := cell_after (show W1.cell? ⟨wr.heap.size, 0, none⟩ = some (.int .i64 at0) from by rw [blk_cell hb1]; rfl)
      have e1 := cell_after (show W1.cell? ⟨wr.heap.size, 1, none⟩ = some (.int .u8 (kd.toNat : Int)) from by rw [blk_cell hb1]; rfl)
      have f0 := cell_after (cell_stays hbel1 d0)
      have HBE1 := hide hbel1
      clear hb1 hsz1 d0 d1 z0 z1
      by_cases h1 : at0 < 0
      · have HNO : Hid (stopOk last ⟨at0, kd⟩ = false) := hide (by
          have hl := HL.out
          unfold stopOk
          rw [show decide (last < (⟨at0, kd⟩ : StopT).at_) = false from decide_eq_false (by show ¬ last < at0; omega)]
          rfl)
        clear hbel1
        refine wp_region_after (by kernel_rfl) (by kernel_rfl) ?_
        repeat (go_big_quiet_step (fail))
        refine wpQuiet_nil ?_
        intro _ hw'
        obtain ⟨q, rfl⟩ := hw'
        go_wp2_with fail
        go_ret
        exact ⟨ret_bool (by rw [hsb.out, HS.out, HST.out, HNO.out]; rfl), HBEL.out.trans ((HB2.out.trans ((HBE1.out.trans (q.h.mono HBE1.out.size)).mono HB2.out.size)).mono HBEL.out.size)⟩
      by_cases h2 : 1000000 < at0
      · have HNO : Hid (stopOk last ⟨at0, kd⟩ = false) := hide (by
          unfold stopOk
          rw [show decide ((⟨at0, kd⟩ : StopT).at_ ≤ 1000000) = false from decide_eq_false (by show ¬ at0 ≤ 1000000; omega), Bool.false_and, Bool.and_false])
        clear hbel1
        refine wp_region_after (by kernel_rfl) (by kernel_rfl) ?_
        repeat (go_big_quiet_step (fail))
        refine wpQuiet_nil ?_
        intro _ hw'
        obtain ⟨q, rfl⟩ := hw'
        go_wp2_with fail
        go_ret
        exact ⟨ret_bool (by rw [hsb.out, HS.out, HST.out, HNO.out]; rfl), HBEL.out.trans ((HB2.out.trans ((HBE1.out.trans (q.h.mono HBE1.out.size)).mono HB2.out.size)).mono HBEL.out.size)⟩
      have hin : inB [76, 82, 67] kd = (decide ((kd.toNat : Int) = 76) || (decide ((kd.toNat : Int) = 82) || decide ((kd.toNat : Int) = 67))) := inB_three kd
      have HIN := hide hin
      clear hin
      by_cases h3 : (kd.toNat : Int) = 76
      · have HK : Hid ((true && inB [76, 82, 67] kd) = true) := hide (by rw [HIN.out]; simp [h3])
        rcases HL.out with ⟨hk0, hl0⟩ | ⟨hl0, j, y, hkj, hy, hya⟩
        · have HYES : Hid (stopOk last ⟨at0, kd⟩ = true) := hide (by
            unfold stopOk
            rw [show decide (last < (⟨at0, kd⟩ : StopT).at_) = true from decide_eq_true (by show last < at0; omega), show decide ((⟨at0, kd⟩ : StopT).at_ ≤ 1000000) = true from decide_eq_true (by show at0 ≤ 1000000; omega)]
            exact HK.out)
          subst hk0
          clear hl0 hbel1
          refine wp_region_after (by kernel_rfl) (by kernel_rfl) ?_
          repeat (go_big_quiet_step (fail))
          refine wpQuiet_nil ?_
          intro _ hw'
          obtain ⟨q, rfl⟩ := hw'
          go_wp2_with fail
          go_roundw
          case rel => exact ⟨0 + 1, at0, by go_num, by omega, hide (.inr ⟨by omega, _, _, rfl, HX.out, rfl⟩), hide (by rw [HS.out, HST.out, HYES.out]; rfl), hide (HB2.out.trans ((HBE1.out.trans (q.h.mono HBE1.out.size)).mono HB2.out.size))⟩
          case measure => simp [intOf]; omega
        · subst hkj
          obtain ⟨b', off', eb, -, p0, -⟩ := rd_stop (((HRW.out.below HB2.out)).below hbel1) hy
          cases eb
          rw [hya] at p0
          have p0 := cell_after p0
          have i3 : (0 : Int) < ((j + 1 : Nat) : Int) := by omega
          clear hy hya hbel1
          by_cases h6 : at0 ≤ last
          · have HNO : Hid (stopOk last ⟨at0, kd⟩ = false) := hide (by
              unfold stopOk
              rw [show decide (last < (⟨at0, kd⟩ : StopT).at_) = false from decide_eq_false (by show ¬ last < at0; omega)]
              rfl)
            refine wp_region_after (by kernel_rfl) (by kernel_rfl) ?_
            repeat (go_big_quiet_step (fail))
            refine wpQuiet_nil ?_
            intro _ hw'
            obtain ⟨q, rfl⟩ := hw'
            go_wp2_with fail
            go_ret
            exact ⟨ret_bool (by rw [hsb.out, HS.out, HST.out, HNO.out]; rfl), HBEL.out.trans ((HB2.out.trans ((HBE1.out.trans (q.h.mono HBE1.out.size)).mono HB2.out.size)).mono HBEL.out.size)⟩
          · have HYES : Hid (stopOk last ⟨at0, kd⟩ = true) := hide (by
              unfold stopOk
              rw [show decide (last < (⟨at0, kd⟩ : StopT).at_) = true from decide_eq_true (by show last < at0; omega), show decide ((⟨at0, kd⟩ : StopT).at_ ≤ 1000000) = true from decide_eq_true (by show at0 ≤ 1000000; omega)]
              exact HK.out)
            refine wp_region_after (by kernel_rfl) (by kernel_rfl) ?_
            repeat (go_big_quiet_step (fail))
            refine wpQuiet_nil ?_
            intro _ hw'
            obtain ⟨q, rfl⟩ := hw'
            go_wp2_with fail
            go_roundw
            case rel => exact ⟨j + 1 + 1, at0, by go_num, by omega, hide (.inr ⟨by omega, _, _, rfl, HX.out, rfl⟩), hide (by rw [HS.out, HST.out, HYES.out]; rfl), hide (HB2.out.trans ((HBE1.out.trans (q.h.mono HBE1.out.size)).mono HB2.out.size))⟩
            case measure => simp [intOf]; omega
      by_cases h4 : (kd.toNat : Int) = 82
      · have HK : Hid ((true && inB [76, 82, 67] kd) = true) := hide (by rw [HIN.out]; simp [h3, h4])
        rcases HL.out with ⟨hk0, hl0⟩ | ⟨hl0, j, y, hkj, hy, hya⟩
        · have HYES : Hid (stopOk last ⟨at0, kd⟩ = true) := hide (by
            unfold stopOk
            rw [show decide (last < (⟨at0, kd⟩ : StopT).at_) = true from decide_eq_true (by show last < at0; omega), show decide ((⟨at0, kd⟩ : StopT).at_ ≤ 1000000) = true from decide_eq_true (by show at0 ≤ 1000000; omega)]
            exact HK.out)
          subst hk0
          clear hl0 hbel1
          refine wp_region_after (by kernel_rfl) (by kernel_rfl) ?_
          repeat (go_big_quiet_step (fail))
          refine wpQuiet_nil ?_
          intro _ hw'
          obtain ⟨q, rfl⟩ := hw'
          go_wp2_with fail
          go_roundw
          case rel => exact ⟨0 + 1, at0, by go_num, by omega, hide (.inr ⟨by omega, _, _, rfl, HX.out, rfl⟩), hide (by rw [HS.out, HST.out, HYES.out]; rfl), hide (HB2.out.trans ((HBE1.out.trans (q.h.mono HBE1.out.size)).mono HB2.out.size))⟩
          case measure => simp [intOf]; omega
        · subst hkj
          obtain ⟨b', off', eb, -, p0, -⟩ := rd_stop (((HRW.out.below HB2.out)).below hbel1) hy
          cases eb
          rw [hya] at p0
          have p0 := cell_after p0
          have i3 : (0 : Int) < ((j + 1 : Nat) : Int) := by omega
          clear hy hya hbel1
          by_cases h6 : at0 ≤ last
          · have HNO : Hid (stopOk last ⟨at0, kd⟩ = false) := hide (by
              unfold stopOk
              rw [show decide (last < (⟨at0, kd⟩ : StopT).at_) = false from decide_eq_false (by show ¬ last < at0; omega)]
              rfl)
            refine wp_region_after (by kernel_rfl) (by kernel_rfl) ?_
            repeat (go_big_quiet_step (fail))
            refine wpQuiet_nil ?_
            intro _ hw'
            obtain ⟨q, rfl⟩ := hw'
            go_wp2_with fail
            go_ret
            exact ⟨ret_bool (by rw [hsb.out, HS.out, HST.out, HNO.out]; rfl), HBEL.out.trans ((HB2.out.trans ((HBE1.out.trans (q.h.mono HBE1.out.size)).mono HB2.out.size)).mono HBEL.out.size)⟩
          · have HYES : Hid (stopOk last ⟨at0, kd⟩ = true) := hide (by
              unfold stopOk
              rw [show decide (last < (⟨at0, kd⟩ : StopT).at_) = true from decide_eq_true (by show last < at0; omega), show decide ((⟨at0, kd⟩ : StopT).at_ ≤ 1000000) = true from decide_eq_true (by show at0 ≤ 1000000; omega)]
              exact HK.out)
            refine wp_region_after (by kernel_rfl) (by kernel_rfl) ?_
            repeat (go_big_quiet_step (fail))
            refine wpQuiet_nil ?_
            intro _ hw'
            obtain ⟨q, rfl⟩ := hw'
            go_wp2_with fail
            go_roundw
            case rel => exact ⟨j + 1 + 1, at0, by go_num, by omega, hide (.inr ⟨by omega, _, _, rfl, HX.out, rfl⟩), hide (by rw [HS.out, HST.out, HYES.out]; rfl), hide (HB2.out.trans ((HBE1.out.trans (q.h.mono HBE1.out.size)).mono HB2.out.size))⟩
            case measure => simp [intOf]; omega
      by_cases h5 : (kd.toNat : Int) = 67
      · have HK : Hid ((true && inB [76, 82, 67] kd) = true) := hide (by rw [HIN.out]; simp [h3, h4, h5])
        rcases HL.out with ⟨hk0, hl0⟩ | ⟨hl0, j, y, hkj, hy, hya⟩
        · have HYES : Hid (stopOk last ⟨at0, kd⟩ = true) := hide (by
            unfold stopOk
            rw [show decide (last < (⟨at0, kd⟩ : StopT).at_) = true from decide_eq_true (by show last < at0; omega), show decide ((⟨at0, kd⟩ : StopT).at_ ≤ 1000000) = true from decide_eq_true (by show at0 ≤ 1000000; omega)]
            exact HK.out)
          subst hk0
          clear hl0 hbel1
          refine wp_region_after (by kernel_rfl) (by kernel_rfl) ?_
          repeat (go_big_quiet_step (fail))
          refine wpQuiet_nil ?_
          intro _ hw'
          obtain ⟨q, rfl⟩ := hw'
          go_wp2_with fail
          go_roundw
          case rel => exact ⟨0 + 1, at0, by go_num, by omega, hide (.inr ⟨by omega, _, _, rfl, HX.out, rfl⟩), hide (by rw [HS.out, HST.out, HYES.out]; rfl), hide (HB2.out.trans ((HBE1.out.trans (q.h.mono HBE1.out.size)).mono HB2.out.size))⟩
          case measure => simp [intOf]; omega
        · subst hkj
          obtain ⟨b', off', eb, -, p0, -⟩ := rd_stop (((HRW.out.below HB2.out)).below hbel1) hy
          cases eb
          rw [hya] at p0
          have p0 := cell_after p0
          have i3 : (0 : Int) < ((j + 1 : Nat) : Int) := by omega
          clear hy hya hbel1
          by_cases h6 : at0 ≤ last
          · have HNO : Hid (stopOk last ⟨at0, kd⟩ = false) := hide (by
              unfold stopOk
              rw [show decide (last < (⟨at0, kd⟩ : StopT).at_) = false from decide_eq_false (by show ¬ last < at0; omega)]
              rfl)
            refine wp_region_after (by kernel_rfl) (by kernel_rfl) ?_
            repeat (go_big_quiet_step (fail))
            refine wpQuiet_nil ?_
            intro _ hw'
            obtain ⟨q, rfl⟩ := hw'
            go_wp2_with fail
            go_ret
            exact ⟨ret_bool (by rw [hsb.out, HS.out, HST.out, HNO.out]; rfl), HBEL.out.trans ((HB2.out.trans ((HBE1.out.trans (q.h.mono HBE1.out.size)).mono HB2.out.size)).mono HBEL.out.size)⟩
          · have HYES : Hid (stopOk last ⟨at0, kd⟩ = true) := hide (by
              unfold stopOk
              rw [show decide (last < (⟨at0, kd⟩ : StopT).at_) = true from decide_eq_true (by show last < at0; omega), show decide ((⟨at0, kd⟩ : StopT).at_ ≤ 1000000) = true from decide_eq_true (by show at0 ≤ 1000000; omega)]
              exact HK.out)
            refine wp_region_after (by kernel_rfl) (by kernel_rfl) ?_
            repeat (go_big_quiet_step (fail))
            refine wpQuiet_nil ?_
            intro _ hw'
            obtain ⟨q, rfl⟩ := hw'
            go_wp2_with fail
            go_roundw
            case rel => exact ⟨j + 1 + 1, at0, by go_num, by omega, hide (.inr ⟨by omega, _, _, rfl, HX.out, rfl⟩), hide (by rw [HS.out, HST.out, HYES.out]; rfl), hide (HB2.out.trans ((HBE1.out.trans (q.h.mono HBE1.out.size)).mono HB2.out.size))⟩
            case measure => simp [intOf]; omega
      have HNO : Hid (stopOk last ⟨at0, kd⟩ = false) := hide (by
        unfold stopOk
        rw [show inB [76, 82, 67] (⟨at0, kd⟩ : StopT).kind = false from by show inB [76, 82, 67] kd = false; rw [HIN.out]; simp [h3, h4, h5], Bool.and_false, Bool.and_false])
      have n3 : ((kd.toNat : Int) != 76) = true := bne_iff_ne.2 h3
      have n4 : ((kd.toNat : Int) != 82) = true := bne_iff_ne.2 h4
      have n5 : ((kd.toNat : Int) != 67) = true := bne_iff_ne.2 h5
      clear hbel1
      refine wp_region_after (by kernel_rfl) (by kernel_rfl) ?_
      repeat (go_big_quiet_step (fail))
      refine wpQuiet_nil ?_
      intro _ hw'
      obtain ⟨q, rfl⟩ := hw'
      go_wp2_with fail
      go_ret
      exact ⟨ret_bool (by rw [hsb.out, HS.out, HST.out, HNO.out]; rfl), HBEL.out.trans ((HB2.out.trans ((HBE1.out.trans (q.h.mono HBE1.out.size)).mono HB2.out.size)).mono HBEL.out.size)⟩
    · have hkl : l.drop k = [] := List.drop_of_length_le (by have := HLN.out; omega)
      have hs1 : stopsFrom (-1) l = true := by rw [HS.out, hkl]; rfl
      have HS1 := hide hs1
      clear hs1 hkl
      have HQ : Hid (∀ b : Bool, (stopsB l every = b) ↔ (decide (n ≤ 40) && (decide (0 ≤ every) && decide (every ≤ 1000000))) = b) := hide (fun b => by rw [hsb.out, HS1.out, ← HLN.out]; rfl)
      by_cases h1 : n ≤ 40
      · by_cases h2 : 0 ≤ every
        · by_cases h3 : every ≤ 1000000
          · go_wp2_with fail
            go_ret
            exact ⟨ret_bool ((HQ.out _).2 (by simp [h1, h2, h3] <;> omega)).symm, HBEL.out.trans (HB2.out.mono HBEL.out.size)⟩
          · go_wp2_with fail
            go_ret
            exact ⟨ret_bool ((HQ.out _).2 (by simp [h1, h2, h3] <;> omega)).symm, HBEL.out.trans (HB2.out.mono HBEL.out.size)⟩
        · go_wp2_with fail
          go_ret
          exact ⟨ret_bool ((HQ.out _).2 (by simp [h1, h2] <;> omega)).symm, HBEL.out.trans (HB2.out.mono HBEL.out.size)⟩
      · go_wp2_with fail
        go_ret
        exact ⟨ret_bool ((HQ.out _).2 (by simp [h1] <;> omega)).symm, HBEL.out.trans (HB2.out.mono HBEL.out.size)⟩
end Go.Proofs.Ytekkjieoikgpmaa
