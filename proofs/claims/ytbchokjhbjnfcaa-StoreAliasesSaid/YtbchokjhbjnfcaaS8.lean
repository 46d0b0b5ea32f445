/- The law StoreParts: the walk. -/
import Derived.Test.YtbchokjhbjnfcaaS7
import Derived.Deep.DeepCutAuto
set_option linter.unusedVariables false
set_option linter.unusedSimpArgs false
namespace Go.Proofs.Ytbchokjhbjnfcaa
open Go.RowKit
set_option maxHeartbeats 3200000
set_option maxRecDepth 1000000

theorem extract_list {s : ByteArray} {a b : Nat} {l : List UInt8} (h : (s.data.toList.drop a).take (b - a) = l) : (s.extract a b).data.toList = l := by rw [Lib.extract_data, h]
theorem extract_none (s : ByteArray) (a b : Nat) (h : b ≤ a) : s.extract a b = ⟨#[]⟩ := WideShapes.bytes_inj (by rw [Lib.extract_data, show b - a = 0 by omega]; rfl)
theorem extract_snoc (s : ByteArray) (a i : Nat) (h : a ≤ i) (hi : i < s.size) : s.extract a i ++ s.extract i (i + 1) = s.extract a (i + 1) := by
  apply WideShapes.bytes_inj
  have hd : (s.extract a i ++ s.extract i (i + 1)).data.toList = (s.extract a i).data.toList ++ (s.extract i (i + 1)).data.toList := by rw [ByteArray.data_append, Array.toList_append]
  rw [hd, Lib.extract_data, Lib.extract_data, Lib.extract_data]
  have e1 : i + 1 - a = (i - a) + 1 := by omega
  have e2 : i + 1 - i = 1 := by omega
  rw [e1, e2, List.take_add, List.drop_drop, show a + (i - a) = i by omega]
theorem part_in (n : Nat) (f u f' u' : Int) (hf : f' = if f < 0 then f + n else f) (hu : u' = if u < 0 then u + n else u) (lo hi : Nat) (hlo : partLo n f u = lo) (hhi : partHi n f u = hi) (i : Nat) (hi2 : i < n) :
    (lo ≤ i ∧ i < hi) ↔ (f' ≤ i ∧ i ≤ u' ∨ u' ≤ i ∧ i ≤ f') := by
  have h1 : placeP n f = min (if f < 0 then max f (-n - 1) + n else f) n := rfl
  have h2 : placeP n u = min (if u < 0 then max u (-n - 1) + n else u) n := rfl
  have h5 : partHi n f u = min (max (placeP n f) (placeP n u) + 1) n := rfl
  have h6 : partLo n f u = min (max (min (placeP n f) (placeP n u)) 0) (partHi n f u) := rfl
  rw [hlo] at h6
  rw [hhi] at h5 h6
  split at h1 <;> split at h2 <;> simp_all <;> omega

theorem StoreParts_any (t : ByteArray) (f u : Int) (w : World) (ht : t.size ≤ 9223372036854775807) (hfr : -9223372036854775808 ≤ f ∧ f ≤ 9223372036854775807) (hur : -9223372036854775808 ≤ u ∧ u ≤ 9223372036854775807) :
    Calls Try.prog 3 #[.string t, .int .i64 f, .int .i64 u] w fun e w' => e = .returned (.bool true) ∧ Below w.heap.size w w' := by
  cases hfit : fitsB t with
  | false =>
    go_enter Try.func3, Try.ntmps3
    go_wp2_with (first
      | (go_at_call 8; refine (IsText_any _ _ ht).mono ?_; rw [hfit]; rintro e w' ⟨rfl, rfl⟩)
      | (go_at_call 9; refine (sane_any _).mono ?_; rintro e w1 ⟨rfl, q⟩; have Q := hide q; clear q))
    go_ret
    exact ⟨rfl, Q.out⟩
  | true =>
  have h2000 : t.size ≤ 2000 := by
    unfold fitsB at hfit
    simp at hfit
    exact hfit.1
  obtain ⟨lo, hi, hlo, hhi, hle, hhn⟩ := part_bounds t.size f u
  obtain ⟨f', hf'⟩ : ∃ f' : Int, f' = if f < 0 then f + (t.size : Nat) else f := ⟨_, rfl⟩
  obtain ⟨u', hu'⟩ : ∃ u' : Int, u' = if u < 0 then u + (t.size : Nat) else u := ⟨_, rfl⟩
  have HIN := hide (part_in t.size f u f' u' hf' hu' lo hi hlo hhi)
  have HFIT := hide hfit
  have HLO := hide hlo
  have HHI := hide hhi
  have HF := hide hf'
  have HU := hide hu'
  have n1 := hide nameA_ok
  have s1 : Hid ((⟨#[97]⟩ : ByteArray).size ≤ 9223372036854775807) := hide (show 1 ≤ 9223372036854775807 by omega)
  have s3 : Hid (t.size ≤ 1000000) := hide (by omega)
  obtain ⟨fr1, fr2⟩ := hfr
  obtain ⟨ur1, ur2⟩ := hur
  clear hfit hlo hhi hf' hu'
  go_enter Try.func3, Try.ntmps3
  go_upto_region 4 with (first
    | (go_at_call 8; refine (IsText_any _ _ ht).mono ?_; rw [HFIT.out]; rintro e w' ⟨rfl, rfl⟩)
    | (go_at_call 10; refine (new_any _).mono ?_; rintro e w1 ⟨rfl, q⟩; have HS1 : Hid (Sto w.heap.size w1 (w.heap.size + 1) w.heap.size (fun _ => none) 0 (fun _ => none)) := hide (by rw [q]; exact new_sto w); have HB1 : Hid (Below w.heap.size w w1) := hide (by rw [q]; exact ((Below.refl _ _).alloc (Nat.le_refl _) _).alloc (by simp) _); clear q))
  go_upto_region 6 with (first
    | (go_at_call 11
       refine (Define_new HS1.out ⟨#[97]⟩ t s1.out ht HFIT.out n1.out rfl (by omega) HB1.out.size).mono ?_
       rintro e w2 ⟨rfl, eb, x, hx1, hx2, hst, hkp⟩
       have HX1 := hide hx1
       have HX2 := hide hx2
       have HS2 := hide hst
       have HB2 := hide (HB1.out.trans (hkp.below (B := w.heap.size) HB1.out.size (fun i h => by omega)))
       clear hx1 hx2 hst hkp)
    | (go_at_call 12
       refine (Part_string HS2.out ⟨#[97]⟩ s1.out (upd_a eb) (updE_same _ eb x) HX1.out HX2.out s3.out f u lo hi HLO.out HHI.out).mono ?_
       rintro e w3 ⟨rfl, hst, hkp⟩
       have HS3 := hide hst
       have HB3 := hide (HB2.out.trans (hkp.below (B := w.heap.size) HB2.out.size (fun i h => by have := (HS2.out.low eb x (updE_same _ eb x)).2.1; omega)))
       clear hst hkp))
  go_upto_region 8 with (go_at_call 13; refine (Text_string HS3.out ⟨#[97]⟩ s1.out (upd_a eb) (updE_same _ _ _) HX1.out rfl).mono ?_; rintro e w4 ⟨rfl, rfl⟩)
  clear HS1 HS2 HS3 HX1 HX2 HB1 HB2
  obtain ⟨ex, hex⟩ : ∃ ex, ex = t.extract lo hi := ⟨_, rfl⟩
  rw [← hex]
  have HEX := hide hex
  clear hex
  go_upto_if 37 with fail
  go_cut [1] (fun s wx => s = .int .i64 f' ∧ w3 = wx)
  case first =>
    have hf := HF.out
    by_cases hneg : f < 0
    · rw [if_pos hneg] at hf
      have HFE := hide hf
      clear hf
      go_wp2_with fail
      go_meet
      exact ⟨congrArg (Value.int .i64) HFE.out.symm, rfl⟩
    · rw [if_neg hneg] at hf
      have HFE := hide hf
      clear hf
      go_wp2_with fail
      go_meet
      exact ⟨congrArg (Value.int .i64) HFE.out.symm, rfl⟩
  case rest =>
  obtain ⟨rfl, rfl⟩ := hcut
  go_upto_region 10 with fail
  go_upto_if 42 with fail
  go_cut [2] (fun s wx => s = .int .i64 u' ∧ w3 = wx)
  case first =>
    have hu := HU.out
    by_cases hneg : u < 0
    · rw [if_pos hneg] at hu
      have HUE := hide hu
      clear hu
      go_wp2_with fail
      go_meet
      exact ⟨congrArg (Value.int .i64) HUE.out.symm, rfl⟩
    · rw [if_neg hneg] at hu
      have HUE := hide hu
      clear hu
      go_wp2_with fail
      go_meet
      exact ⟨congrArg (Value.int .i64) HUE.out.symm, rfl⟩
  case rest =>
  obtain ⟨rfl, rfl⟩ := hcut
  go_wp2_with fail
  go_loopw [11, 12] (fun t11 t12 wr => ∃ (i : Nat) (a : ByteArray), t11 = .string a ∧ t12 = .int .i64 i ∧ i ≤ t.size ∧ Hid (a = t.extract lo (min i hi)) ∧ w3 = wr) (fun _ t12 _ => t.size - (intOf t12).toNat)
  case atStart => exact ⟨0, _, rfl, rfl, Nat.zero_le _, hide (by rw [extract_none _ _ _ (by omega)]), rfl⟩
  case round =>
    obtain ⟨i, a, rfl, rfl, hi1, HA, rfl⟩ := hrel
    by_cases hlt : i < t.size
    · have hin := HIN.out i hlt
      have HIN2 := hide hin
      go_upto_region 16 with fail
      go_cut [68] (fun s wx => s = .bool (decide (lo ≤ i ∧ i < hi)) ∧ w3 = wx)
      case first =>
        clear hin
        by_cases c1 : f' ≤ i
        · by_cases c2 : (i : Int) ≤ u'
          · go_wp2_with fail
            go_meet
            exact ⟨congrArg Value.bool (decide_eq_true (HIN2.out.2 (.inl ⟨c1, c2⟩))).symm, rfl⟩
          · by_cases c3 : u' ≤ i
            · by_cases c4 : (i : Int) ≤ f'
              · go_wp2_with fail
                go_meet
                exact ⟨congrArg Value.bool (decide_eq_true (HIN2.out.2 (.inr ⟨c3, c4⟩))).symm, rfl⟩
              · go_wp2_with fail
                go_meet
                exact ⟨congrArg Value.bool (decide_eq_false (fun h => by have := HIN2.out.1 h; omega)).symm, rfl⟩
            · go_wp2_with fail
              go_meet
              exact ⟨congrArg Value.bool (decide_eq_false (fun h => by have := HIN2.out.1 h; omega)).symm, rfl⟩
        · by_cases c3 : u' ≤ i
          · by_cases c4 : (i : Int) ≤ f'
            · go_wp2_with fail
              go_meet
              exact ⟨congrArg Value.bool (decide_eq_true (HIN2.out.2 (.inr ⟨c3, c4⟩))).symm, rfl⟩
            · go_wp2_with fail
              go_meet
              exact ⟨congrArg Value.bool (decide_eq_false (fun h => by have := HIN2.out.1 h; omega)).symm, rfl⟩
          · go_wp2_with fail
            go_meet
            exact ⟨congrArg Value.bool (decide_eq_false (fun h => by have := HIN2.out.1 h; omega)).symm, rfl⟩
      case rest =>
      obtain ⟨rfl, rfl⟩ := hcut
      clear hin
      by_cases hh : lo ≤ i ∧ i < hi
      · rw [decide_eq_true hh]
        obtain ⟨hh1, hh2⟩ := hh
        have hcat : ¬ 9223372036854775807 < a.size + (min (i + 1) t.size - i) := by
          have h1 : a.size ≤ t.size := by rw [HA.out, ByteArray.size_extract]; omega
          omega
        go_wp2_with fail
        go_roundw
        case rel => exact ⟨i + 1, _, rfl, by go_num, by omega, hide (by rw [HA.out, show min i hi = i by omega, show min (i + 1) hi = i + 1 by omega, extract_snoc t lo i hh1 hlt]), by first | trivial | rfl⟩
        case measure => simp [intOf]; omega
      · rw [decide_eq_false hh]
        have HHH := hide hh
        clear hh
        go_wp2_with fail
        go_roundw
        case rel => exact ⟨i + 1, a, rfl, by go_num, by omega, hide (by
            have := HHH.out
            rw [HA.out]
            by_cases h : i < lo
            · rw [extract_none _ _ _ (by omega), extract_none _ _ _ (by omega)]
            · rw [show min i hi = hi by omega, show min (i + 1) hi = hi by omega]), by first | trivial | rfl⟩
        case measure => simp [intOf]; omega
    · have hi3 : i = t.size := by omega
      subst hi3
      have hax : a = ex := by rw [HA.out, HEX.out, show min t.size hi = hi by omega]
      subst hax
      go_wp2_with (go_at_call 9; refine (sane_any _).mono ?_; rintro e w9 ⟨rfl, q⟩; have Q := hide q; clear q)
      go_ret
      exact ⟨rfl, below_self HB3.out Q.out⟩
end Go.Proofs.Ytbchokjhbjnfcaa
