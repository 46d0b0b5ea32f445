/- The reference's tests of texts and numbers: frisketref07.Name, frisketref08.IsName, colour, frisketref17.visible, Colour, frisketref16.glyph, within, frisketref14.Valid. -/
import Derived.Test.YtekkjieoikgpmaaE9
set_option linter.unusedVariables false
set_option linter.unusedSimpArgs false
namespace Go.Proofs.Ytekkjieoikgpmaa
open Go.RowKit
set_option maxHeartbeats 1600000
set_option maxRecDepth 1000000

theorem refWithin_any (n lo hi : Int) (w : World) : Calls Try.prog 41 #[.int .i64 n, .int .i64 lo, .int .i64 hi] w fun e w' => e = .returned (.bool (withinB n lo hi)) ∧ w = w' := by
  have hx : Hid (withinB n lo hi = (decide (lo ≤ n) && decide (n ≤ hi))) := hide rfl
  by_cases h1 : lo ≤ n
  · go_enter Try.func41, Try.ntmps41
    go_wp2_with fail
    go_ret
    exact ⟨by rw [hx.out]; simp [h1], rfl⟩
  · go_enter Try.func41, Try.ntmps41
    go_wp2_with fail
    go_ret
    exact ⟨by rw [hx.out]; simp; omega, rfl⟩
theorem refWithin14_any (n lo hi : Int) (w : World) : Calls Try.prog 74 #[.int .i64 n, .int .i64 lo, .int .i64 hi] w fun e w' => e = .returned (.bool (withinB n lo hi)) ∧ w = w' := by
  have hx : Hid (withinB n lo hi = (decide (lo ≤ n) && decide (n ≤ hi))) := hide rfl
  by_cases h1 : lo ≤ n
  · go_enter Try.func74, Try.ntmps74
    go_wp2_with fail
    go_ret
    exact ⟨by rw [hx.out]; simp [h1], rfl⟩
  · go_enter Try.func74, Try.ntmps74
    go_wp2_with fail
    go_ret
    exact ⟨by rw [hx.out]; simp; omega, rfl⟩
theorem refMargin_any (on : Bool) (next every space indent skip : Int) (w : World) : Calls Try.prog 45 #[.agg #[.bool on, .int .i64 next, .int .i64 every, .int .i64 space, .int .i64 indent, .int .i64 skip]] w fun e w' => e = .returned (.bool (marginB next every space indent skip)) ∧ Below w.heap.size w w' := by
  have hx : Hid (marginB next every space indent skip = (withinB next 0 1000000 && (withinB every 1 1000 && (withinB space 0 100 && (withinB indent 0 100 && withinB skip 0 1000))))) := hide rfl
  go_enter Try.func45, Try.ntmps45
  go_wp2_with (go_at_call 74; refine (refWithin14_any _ _ _ _).mono ?_; rintro e w' ⟨rfl, rfl⟩)
  all_goals go_ret
  all_goals refine ⟨ret_bool ?_, (Below.refl _ _).alloc (Nat.le_refl _) _⟩
  all_goals rw [hx.out]
  all_goals simp_all
theorem low_of_bad {c : UInt8} (h : goodB c = false) (h1 : ¬ (c.toNat : Int) < 33) : 126 < (c.toNat : Int) := by
  unfold goodB at h
  simp at h
  omega
theorem good_low {c : UInt8} (h : goodB c = true) : ¬ (c.toNat : Int) < 33 := by
  unfold goodB at h
  simp at h
  omega
theorem good_high {c : UInt8} (h : goodB c = true) : ¬ 126 < (c.toNat : Int) := by
  unfold goodB at h
  simp at h
  omega
def goodAll (s : ByteArray) : Bool := s.data.toList.all goodB
theorem visible_any (s : ByteArray) (w : World) (hs : s.size ≤ 9223372036854775807) : Calls Try.prog 73 #[.string s] w fun e w' => e = .returned (.bool (goodAll s)) ∧ w = w' := by
  have hnb : Hid (goodAll s = (s.data.toList.all goodB)) := hide rfl
  go_enter Try.func73, Try.ntmps73
  go_wp2_with fail
  go_loopw [3] (fun t3 wr => ∃ k : Nat, t3 = .int .i64 k ∧ k ≤ s.size ∧ w = wr ∧ Hid ((s.data.toList.take k).all goodB = true)) (fun t3 _ => s.size - (intOf t3).toNat)
  case atStart => exact ⟨0, rfl, Nat.zero_le _, rfl, hide rfl⟩
  case round =>
    obtain ⟨k, rfl, hk, rfl, HG⟩ := hrel
    by_cases hlt : k < s.size
    · obtain ⟨c, hc⟩ : ∃ c, c = s[k]'hlt := ⟨_, rfl⟩
      have HC := hide hc
      have hi := fun W : World => (show (Instr.index 9 (.string s) (.int .i64 (k : Int))).run Try.prog W = .ok (.int .u8 (c.toNat : Int)) W from by
        rw [run_index_string W 9 s .i64 k (by kernel_rfl), dif_pos (by omega), hc]
        rfl)
      cases hg : goodB c with
      | true =>
        have h1 := good_low hg
        have h2 := good_high hg
        have HX := hide hg
        clear hg hc
        go_wp2_with fail
        go_roundw
        case rel => exact ⟨k + 1, by go_num, by omega, by first | rfl | trivial, hide (by rw [all_take_succ s k hlt, HG.out, ← HC.out, HX.out]; rfl)⟩
        case measure => simp [intOf]; omega
      | false =>
        have HX := hide hg
        by_cases h1 : (c.toNat : Int) < 33
        · clear hg hc
          go_wp2_with fail
          go_ret
          exact ⟨ret_bool (by rw [hnb.out, all_of_take s k hlt (by rw [← HC.out, HX.out])]; try simp), rfl⟩
        · have h2 := low_of_bad hg h1
          clear hg hc
          go_wp2_with fail
          go_ret
          exact ⟨ret_bool (by rw [hnb.out, all_of_take s k hlt (by rw [← HC.out, HX.out])]; try simp), rfl⟩
    · have hg := HG.out
      rw [List.take_of_length_le (by simp; omega)] at hg
      have HA := hide hg
      clear hg
      go_wp2_with fail
      go_ret
      exact ⟨ret_bool (by rw [hnb.out, HA.out]), rfl⟩
theorem refName_any (s : ByteArray) (w : World) (hs : s.size ≤ 9223372036854775807) : Calls Try.prog 72 #[.string s] w fun e w' => e = .returned (.bool (namedB s)) ∧ w = w' := by
  have hnb : Hid (namedB s = (decide (1 ≤ s.size) && (decide (s.size ≤ 10) && s.data.toList.all goodB))) := hide rfl
  go_enter Try.func72, Try.ntmps72
  go_wp2_with fail
  go_loopw [3] (fun t3 wr => ∃ k : Nat, t3 = .int .i64 k ∧ k ≤ s.size ∧ w = wr ∧ Hid ((s.data.toList.take k).all goodB = true)) (fun t3 _ => s.size - (intOf t3).toNat)
  case atStart => exact ⟨0, rfl, Nat.zero_le _, rfl, hide rfl⟩
  case round =>
    obtain ⟨k, rfl, hk, rfl, HG⟩ := hrel
    by_cases hlt : k < s.size
    · obtain ⟨c, hc⟩ : ∃ c, c = s[k]'hlt := ⟨_, rfl⟩
      have HC := hide hc
      have hi := fun W : World => (show (Instr.index 9 (.string s) (.int .i64 (k : Int))).run Try.prog W = .ok (.int .u8 (c.toNat : Int)) W from by
        rw [run_index_string W 9 s .i64 k (by kernel_rfl), dif_pos (by omega), hc]
        rfl)
      cases hg : goodB c with
      | true =>
        have h1 := good_low hg
        have h2 := good_high hg
        have HX := hide hg
        clear hg hc
        go_wp2_with fail
        go_roundw
        case rel => exact ⟨k + 1, by go_num, by omega, by first | rfl | trivial, hide (by rw [all_take_succ s k hlt, HG.out, ← HC.out, HX.out]; rfl)⟩
        case measure => simp [intOf]; omega
      | false =>
        have HX := hide hg
        by_cases h1 : (c.toNat : Int) < 33
        · clear hg hc
          go_wp2_with fail
          go_ret
          exact ⟨ret_bool (by rw [hnb.out, all_of_take s k hlt (by rw [← HC.out, HX.out])]; try simp), rfl⟩
        · have h2 := low_of_bad hg h1
          clear hg hc
          go_wp2_with fail
          go_ret
          exact ⟨ret_bool (by rw [hnb.out, all_of_take s k hlt (by rw [← HC.out, HX.out])]; try simp), rfl⟩
    · have hg := HG.out
      rw [List.take_of_length_le (by simp; omega)] at hg
      have HA := hide hg
      clear hg
      by_cases h1 : 1 ≤ s.size
      · by_cases h2 : s.size ≤ 10
        · go_wp2_with fail
          go_ret
          exact ⟨ret_bool (by rw [hnb.out, HA.out]; simp [h1, h2] <;> omega), rfl⟩
        · go_wp2_with fail
          go_ret
          exact ⟨ret_bool (by rw [hnb.out, HA.out]; simp [h1, h2] <;> omega), rfl⟩
      · go_wp2_with fail
        go_ret
        exact ⟨ret_bool (by rw [hnb.out, HA.out]; simp [h1] <;> omega), rfl⟩
theorem refIsName_any (s : ByteArray) (w : World) (hs : s.size ≤ 9223372036854775807) : Calls Try.prog 75 #[.string s] w fun e w' => e = .returned (.bool (namedB s)) ∧ w = w' := by
  have hnb : Hid (namedB s = (decide (1 ≤ s.size) && (decide (s.size ≤ 10) && s.data.toList.all goodB))) := hide rfl
  go_enter Try.func75, Try.ntmps75
  go_wp2_with fail
  go_loopw [3] (fun t3 wr => ∃ k : Nat, t3 = .int .i64 k ∧ k ≤ s.size ∧ w = wr ∧ Hid ((s.data.toList.take k).all goodB = true)) (fun t3 _ => s.size - (intOf t3).toNat)
  case atStart => exact ⟨0, rfl, Nat.zero_le _, rfl, hide rfl⟩
  case round =>
    obtain ⟨k, rfl, hk, rfl, HG⟩ := hrel
    by_cases hlt : k < s.size
    · obtain ⟨c, hc⟩ : ∃ c, c = s[k]'hlt := ⟨_, rfl⟩
      have HC := hide hc
      have hi := fun W : World => (show (Instr.index 9 (.string s) (.int .i64 (k : Int))).run Try.prog W = .ok (.int .u8 (c.toNat : Int)) W from by
        rw [run_index_string W 9 s .i64 k (by kernel_rfl), dif_pos (by omega), hc]
        rfl)
      cases hg : goodB c with
      | true =>
        have h1 := good_low hg
        have h2 := good_high hg
        have HX := hide hg
        clear hg hc
        go_wp2_with fail
        go_roundw
        case rel => exact ⟨k + 1, by go_num, by omega, by first | rfl | trivial, hide (by rw [all_take_succ s k hlt, HG.out, ← HC.out, HX.out]; rfl)⟩
        case measure => simp [intOf]; omega
      | false =>
        have HX := hide hg
        by_cases h1 : (c.toNat : Int) < 33
        · clear hg hc
          go_wp2_with fail
          go_ret
          exact ⟨ret_bool (by rw [hnb.out, all_of_take s k hlt (by rw [← HC.out, HX.out])]; try simp), rfl⟩
        · have h2 := low_of_bad hg h1
          clear hg hc
          go_wp2_with fail
          go_ret
          exact ⟨ret_bool (by rw [hnb.out, all_of_take s k hlt (by rw [← HC.out, HX.out])]; try simp), rfl⟩
    · have hg := HG.out
      rw [List.take_of_length_le (by simp; omega)] at hg
      have HA := hide hg
      clear hg
      by_cases h1 : 1 ≤ s.size
      · by_cases h2 : s.size ≤ 10
        · go_wp2_with fail
          go_ret
          exact ⟨ret_bool (by rw [hnb.out, HA.out]; simp [h1, h2] <;> omega), rfl⟩
        · go_wp2_with fail
          go_ret
          exact ⟨ret_bool (by rw [hnb.out, HA.out]; simp [h1, h2] <;> omega), rfl⟩
      · go_wp2_with fail
        go_ret
        exact ⟨ret_bool (by rw [hnb.out, HA.out]; simp [h1] <;> omega), rfl⟩
theorem refColour8_any (s : ByteArray) (w : World) (hs : s.size ≤ 9223372036854775807) : Calls Try.prog 76 #[.string s] w fun e w' => e = .returned (.bool (colourB s)) ∧ w = w' := by
  have hnb : Hid (colourB s = (decide (s.size ≤ 20) && s.data.toList.all goodB)) := hide rfl
  go_enter Try.func76, Try.ntmps76
  go_wp2_with fail
  go_loopw [3] (fun t3 wr => ∃ k : Nat, t3 = .int .i64 k ∧ k ≤ s.size ∧ w = wr ∧ Hid ((s.data.toList.take k).all goodB = true)) (fun t3 _ => s.size - (intOf t3).toNat)
  case atStart => exact ⟨0, rfl, Nat.zero_le _, rfl, hide rfl⟩
  case round =>
    obtain ⟨k, rfl, hk, rfl, HG⟩ := hrel
    by_cases hlt : k < s.size
    · obtain ⟨c, hc⟩ : ∃ c, c = s[k]'hlt := ⟨_, rfl⟩
      have HC := hide hc
      have hi := fun W : World => (show (Instr.index 9 (.string s) (.int .i64 (k : Int))).run Try.prog W = .ok (.int .u8 (c.toNat : Int)) W from by
        rw [run_index_string W 9 s .i64 k (by kernel_rfl), dif_pos (by omega), hc]
        rfl)
      cases hg : goodB c with
      | true =>
        have h1 := good_low hg
        have h2 := good_high hg
        have HX := hide hg
        clear hg hc
        go_wp2_with fail
        go_roundw
        case rel => exact ⟨k + 1, by go_num, by omega, by first | rfl | trivial, hide (by rw [all_take_succ s k hlt, HG.out, ← HC.out, HX.out]; rfl)⟩
        case measure => simp [intOf]; omega
      | false =>
        have HX := hide hg
        by_cases h1 : (c.toNat : Int) < 33
        · clear hg hc
          go_wp2_with fail
          go_ret
          exact ⟨ret_bool (by rw [hnb.out, all_of_take s k hlt (by rw [← HC.out, HX.out])]; try simp), rfl⟩
        · have h2 := low_of_bad hg h1
          clear hg hc
          go_wp2_with fail
          go_ret
          exact ⟨ret_bool (by rw [hnb.out, all_of_take s k hlt (by rw [← HC.out, HX.out])]; try simp), rfl⟩
    · have hg := HG.out
      rw [List.take_of_length_le (by simp; omega)] at hg
      have HA := hide hg
      clear hg
      by_cases h2 : s.size ≤ 20
      · go_wp2_with fail
        go_ret
        exact ⟨ret_bool (by rw [hnb.out, HA.out]; simp [h2] <;> omega), rfl⟩
      · go_wp2_with fail
        go_ret
        exact ⟨ret_bool (by rw [hnb.out, HA.out]; simp [h2] <;> omega), rfl⟩
theorem refColour_any (s : ByteArray) (w : World) : Calls Try.prog 44 #[.string s] w fun e w' => e = .returned (.bool (textB s 20)) ∧ w = w' := by
  have hnb : Hid (textB s 20 = (decide (s.size ≤ 20) && s.data.toList.all goodB)) := hide rfl
  by_cases h2 : s.size ≤ 20
  · go_enter Try.func44, Try.ntmps44
    go_wp2_with (go_at_call 73; refine (visible_any s _ (by omega)).mono ?_; rintro e w' ⟨rfl, rfl⟩)
    go_ret
    exact ⟨ret_bool (by rw [hnb.out]; simp [h2, goodAll]), rfl⟩
  · go_enter Try.func44, Try.ntmps44
    go_wp2_with fail
    go_ret
    exact ⟨ret_bool (by rw [hnb.out]; simp [h2]), rfl⟩
theorem textB_named (s : ByteArray) (h : s.size ≠ 0) : textB s 10 = namedB s := by
  unfold textB namedB
  simp
  omega
theorem empty_size {s : ByteArray} (h : s.toList.isEmpty = true) : s.size = 0 := by
  rw [ByteArray.toList_eq] at h
  have := List.isEmpty_iff.1 h
  have hl : s.data.toList.length = s.size := Array.length_toList
  rw [this] at hl
  exact hl.symm
theorem size_empty {s : ByteArray} (h : s.toList.isEmpty = false) : s.size ≠ 0 := fun h0 => by
  have hl : s.data.toList.length = s.size := Array.length_toList
  have hn : s.toList = [] := by
    rw [ByteArray.toList_eq]
    exact List.eq_nil_of_length_eq_zero (by omega)
  rw [hn] at h
  cases h
theorem textB_empty (s : ByteArray) (h : s.toList.isEmpty = true) : textB s 10 = true := by
  have h0 := empty_size h
  have hl : s.data.toList.length = s.size := Array.length_toList
  have hn : s.data.toList = [] := List.eq_nil_of_length_eq_zero (by omega)
  unfold textB
  rw [hn, h0]
  rfl
theorem refGlyph_any (s : ByteArray) (w : World) (hs : s.size ≤ 9223372036854775807) : Calls Try.prog 43 #[.string s] w fun e w' => e = .returned (.bool (textB s 10)) ∧ w = w' := by
  cases he : s.toList.isEmpty with
  | true =>
    have HN := hide (textB_empty s he)
    go_enter Try.func43, Try.ntmps43
    go_wp2_with fail
    go_ret
    exact ⟨ret_bool HN.out.symm, rfl⟩
  | false =>
    have HN := hide (textB_named s (size_empty he))
    go_enter Try.func43, Try.ntmps43
    go_wp2_with (go_at_call 72; refine (refName_any s _ hs).mono ?_; rintro e w' ⟨rfl, rfl⟩)
    go_ret
    exact ⟨ret_bool HN.out.symm, rfl⟩
end Go.Proofs.Ytekkjieoikgpmaa
