/- The law StoreParts: IsText, sane, the plain law, the walk. -/
import Derived.Test.YtbchokjhbjnfcaaS6
import Derived.Lib.Strings
set_option linter.unusedVariables false
set_option linter.unusedSimpArgs false
namespace Go.Proofs.Ytbchokjhbjnfcaa
open Go.RowKit
set_option maxHeartbeats 1600000
set_option maxRecDepth 1000000

theorem flat_take (s : ByteArray) (k : Nat) (h : k < s.size) : (s.data.toList.take (k + 1)).all (fun c => c != 10) = ((s.data.toList.take k).all (fun c => c != 10) && ((s[k]'h) != 10)) := by
  rw [List.take_succ_eq_append_getElem (by simpa using h), List.all_append]
  simp
  rfl
theorem flat_hit (s : ByteArray) (k : Nat) (h : k < s.size) (hb : (s[k]'h) = 10) : flatB s = false := by
  unfold flatB
  rw [Bool.eq_false_iff]
  intro ha
  rw [List.all_eq_true] at ha
  have := ha (s[k]'h) (by
    have : s[k]'h = s.data.toList[k]'(by simpa using h) := rfl
    rw [this]; exact List.getElem_mem _)
  simp [hb] at this
theorem IsText_any (s : ByteArray) (w : World) (hs : s.size ≤ 9223372036854775807) :
    Calls Try.prog 8 #[.string s] w fun e w' => e = .returned (.bool (fitsB s)) ∧ w = w' := by
  have hfb : Hid (fitsB s = (decide (s.size ≤ 2000) && flatB s)) := rfl
  go_enter Try.func8, Try.ntmps8
  go_wp2_with fail
  go_loopw [3] (fun t3 wr => ∃ k : Nat, t3 = .int .i64 k ∧ k ≤ s.size ∧ Hid ((s.data.toList.take k).all (fun c => c != 10) = true) ∧ w = wr) (fun t3 _ => s.size - (intOf t3).toNat)
  case atStart => exact ⟨0, rfl, Nat.zero_le _, hide rfl, rfl⟩
  case round =>
    obtain ⟨k, rfl, hk, HG, rfl⟩ := hrel
    by_cases hlt : k < s.size
    · by_cases hb : (s[k]'hlt) = 10
      · have hz : (((s[k]'hlt).toNat : Int) == 10) = true := by rw [hb]; rfl
        have HF := hide (flat_hit s k hlt hb)
        clear hb
        go_wp2_with fail
        go_ret
        exact ⟨ret_bool (by rw [hfb.out, HF.out]; simp), rfl⟩
      · have hz : (((s[k]'hlt).toNat : Int) == 10) = false := beq_eq_false_iff_ne.2 (fun e => hb (by
          have : (s[k]'hlt).toNat = 10 := by omega
          exact UInt8.toNat_inj.1 this))
        have hg := flat_take s k hlt
        rw [HG.out] at hg
        have hg2 : (s.data.toList.take (k + 1)).all (fun c => c != 10) = true := by rw [hg]; simpa using hb
        have HG2 := hide hg2
        clear hb hg hg2
        go_wp2_with fail
        go_roundw
        case rel => exact ⟨k + 1, by go_num, by omega, HG2, by first | trivial | rfl⟩
        case measure => simp [intOf]; omega
    · have hk2 : k = s.size := by omega
      have h := HG.out
      rw [List.take_of_length_le (by simp; omega)] at h
      have HA : Hid (flatB s = true) := hide h
      clear h
      go_wp2_with fail
      go_ret
      exact ⟨ret_bool (by rw [hfb.out, HA.out]; simp; omega), rfl⟩

theorem new_cells (w : World) : ∃ g b, g = w.heap.size + 1 ∧ b = w.heap.size := ⟨_, _, rfl, rfl⟩
def nameA : ByteArray := ⟨#[97]⟩
theorem nameA_ok : nameB ⟨#[97]⟩ = true := by kernel_rfl
theorem upd_a (e : Nat) : upd (fun _ => none) (⟨#[97]⟩ : ByteArray) (some e) ⟨#[97]⟩ = some e := upd_same _ _ _

theorem sane_any (w : World) : Calls Try.prog 9 #[] w fun e w' => e = .returned (.bool true) ∧ Below w.heap.size w w' := by
  have f1 : Hid (fitsB ⟨#[97, 98, 99, 100, 101]⟩ = true) := hide (by kernel_rfl)
  have n1 := hide nameA_ok
  have s1 : Hid ((⟨#[97]⟩ : ByteArray).size ≤ 9223372036854775807) := hide (show 1 ≤ 9223372036854775807 by omega)
  have s2 : Hid ((⟨#[97, 98, 99, 100, 101]⟩ : ByteArray).size ≤ 9223372036854775807) := hide (show 5 ≤ 9223372036854775807 by omega)
  have s3 : Hid ((⟨#[97, 98, 99, 100, 101]⟩ : ByteArray).size ≤ 1000000) := hide (show 5 ≤ 1000000 by omega)
  have p1 : Hid (partLo ((⟨#[97, 98, 99, 100, 101]⟩ : ByteArray).size : Nat) 1 (-2) = ((1 : Nat) : Int)) := hide (by kernel_rfl)
  have p2 : Hid (partHi ((⟨#[97, 98, 99, 100, 101]⟩ : ByteArray).size : Nat) 1 (-2) = ((4 : Nat) : Int)) := hide (by kernel_rfl)
  have x1 : Hid ((⟨#[97, 98, 99, 100, 101]⟩ : ByteArray).extract 1 4 = ⟨#[98, 99, 100]⟩) := hide (by kernel_rfl)
  go_enter Try.func9, Try.ntmps9
  go_upto_region 2 with (go_at_call 10; refine (new_any _).mono ?_; rintro e w1 ⟨rfl, q⟩; have HS1 : Hid (Sto w.heap.size w1 (w.heap.size + 1) w.heap.size (fun _ => none) 0 (fun _ => none)) := hide (by rw [q]; exact new_sto w); have HB1 : Hid (Below w.heap.size w w1) := hide (by rw [q]; exact ((Below.refl _ _).alloc (Nat.le_refl _) _).alloc (by simp) _); clear q)
  go_upto_region 4 with (first
    | (go_at_call 11
       refine (Define_new HS1.out ⟨#[97]⟩ ⟨#[97, 98, 99, 100, 101]⟩ s1.out s2.out f1.out n1.out rfl (by omega) HB1.out.size).mono ?_
       rintro e w2 ⟨rfl, eb, x, hx1, hx2, hst, hkp⟩
       have HX1 := hide hx1
       have HX2 := hide hx2
       have HS2 := hide hst
       have HB2 := hide (HB1.out.trans (hkp.below (B := w.heap.size) HB1.out.size (fun i h => by omega)))
       clear hx1 hx2 hst hkp)
    | (go_at_call 12
       refine (Part_string HS2.out ⟨#[97]⟩ s1.out (upd_a eb) (updE_same _ eb x) HX1.out HX2.out s3.out 1 (-2) 1 4 p1.out p2.out).mono ?_
       rintro e w3 ⟨rfl, hst, hkp⟩
       rw [x1.out] at hst
       have HS3 := hide hst
       have HB3 := hide (HB2.out.trans (hkp.below (B := w.heap.size) HB2.out.size (fun i h => by have := (HS2.out.low eb x (updE_same _ eb x)).2.1; omega)))
       clear hst hkp))
  go_wp2_with (go_at_call 13; refine (Text_string HS3.out ⟨#[97]⟩ s1.out (upd_a eb) (updE_same _ _ _) HX1.out rfl).mono ?_; rintro e w4 ⟨rfl, rfl⟩)
  go_ret
  exact ⟨rfl, HB3.out⟩
end Go.Proofs.Ytbchokjhbjnfcaa
