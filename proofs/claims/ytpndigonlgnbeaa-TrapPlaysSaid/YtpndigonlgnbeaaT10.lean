/- The small functions of package trap: New, none, far, named, Lands; strings.ContainsFunc with trap.named's test. -/
import Derived.Test.YtpndigonlgnbeaaT2
import Derived.Deep.DeepCutAuto
set_option linter.unusedVariables false
set_option linter.unusedSimpArgs false
namespace Go.Proofs.Ytpndigonlgnbeaa
open Go.RowKit
set_option maxHeartbeats 1600000

def goodB (c : UInt8) : Bool := !(decide (c.toNat < 33) || decide (126 < c.toNat) || c.toNat == 93)
def badI (c : Int) : Bool := decide (c < 33) || decide (126 < c) || (c == 93)
theorem badI_good {c : UInt8} (h : goodB c = true) : badI (c.toNat : Int) = false := by
  unfold goodB at h; unfold badI
  rw [Bool.eq_false_iff]
  simp at h ⊢
  omega
theorem bad_of_good {c : UInt8} (h : goodB c = false) : badI (c.toNat : Int) = true := by
  unfold goodB at h; unfold badI
  simp at h ⊢
  omega
theorem goodB_high {c : UInt8} (h : 128 ≤ c.toNat) : goodB c = false := by
  unfold goodB
  simp
  omega
theorem badI_high {c : Nat} (h : 128 ≤ c) : badI (c : Int) = true := by
  unfold badI
  simp
  omega
theorem all_take_succ (s : ByteArray) (k : Nat) (h : k < s.size) : (s.data.toList.take (k + 1)).all goodB = ((s.data.toList.take k).all goodB && goodB (s[k]'h)) := by
  rw [List.take_succ_eq_append_getElem (by simpa using h), List.all_append]
  simp
  rfl
theorem all_of_take (s : ByteArray) (k : Nat) (h : k < s.size) (hb : goodB (s[k]'h) = false) : s.data.toList.all goodB = false := by
  rw [Bool.eq_false_iff]
  intro ha
  rw [List.all_eq_true] at ha
  have := ha (s[k]'h) (by
    have : s[k]'h = s.data.toList[k]'(by simpa using h) := rfl
    rw [this]; exact List.getElem_mem _)
  rw [hb] at this; cases this

theorem named1_any (c : Int) (w : World) :
    Calls Try.prog 63 #[.int .i32 c] w fun e w' => e = .returned (.bool (badI c)) ∧ w = w' := by
  go_enter Try.func63, Try.ntmps63
  go_wp2
  all_goals go_ret
  all_goals refine ⟨ret_bool ?_, rfl⟩
  all_goals unfold badI; simp_all

theorem indexFunc_named (s : ByteArray) (w : World) (hs : s.size ≤ 9223372036854775807) :
    Calls Try.prog 67 #[.string s, .func (.func 63) #[] #[], .bool true] w fun e w' => ∃ r : Int, e = .returned (.int .i64 r) ∧ decide (0 ≤ r) = !(s.data.toList.all goodB) ∧ Below w.heap.size w w' := by
  go_enter Try.func67, Try.ntmps67
  go_wp2
  go_loopw [] (fun wr => ∃ k : Nat, k ≤ s.size ∧ wr = w.iter s k ∧ (s.data.toList.take k).all goodB = true) (fun wr => s.size - wr.iterPos w.heap.size)
  case atStart => exact ⟨0, Nat.zero_le _, rfl, rfl⟩
  case round =>
    obtain ⟨k, hk, rfl, hg⟩ := hrel
    have HG := hide hg
    clear hg
    by_cases hlt : k < s.size
    · have hn := run_next_any (P := Try.prog) w s k 0 hlt
      by_cases ha : (s[k]'hlt).toNat < 128
      · rw [decode_ascii s k hlt ha] at hn
        by_cases hgd : goodB (s[k]'hlt) = true
        · have hbad := badI_good hgd
          go_wp2_with (go_at_call 63; refine (named1_any _ _).mono ?_; rintro e w' ⟨rfl, rfl⟩)
          go_roundw
          case rel => exact ⟨k + 1, by omega, rfl, by rw [all_take_succ s k hlt, HG.out, hgd]; rfl⟩
          case measure => simp; omega
        · have hgf : goodB (s[k]'hlt) = false := by simpa using hgd
          have hbad := bad_of_good hgf
          go_wp2_with (go_at_call 63; refine (named1_any _ _).mono ?_; rintro e w' ⟨rfl, rfl⟩)
          go_ret
          exact ⟨_, rfl, by rw [all_of_take s k hlt hgf]; simp, (Below.refl _ _).alloc (Nat.le_refl _) _⟩
      · have hgf := goodB_high (c := s[k]'hlt) (by omega)
        have hbad := badI_high (decode_high s k hlt (by omega)).1
        go_wp2_with (go_at_call 63; refine (named1_any _ _).mono ?_; rintro e w' ⟨rfl, rfl⟩)
        go_ret
        exact ⟨_, rfl, by rw [all_of_take s k hlt hgf]; simp, (Below.refl _ _).alloc (Nat.le_refl _) _⟩
    · have hn := run_next_end (P := Try.prog) w s k 0 hlt
      go_wp2
      go_ret
      refine ⟨_, rfl, ?_, ?_⟩
      · have : k = s.size := by omega
        have h := HG.out
        rw [List.take_of_length_le (by simp; omega)] at h
        rw [h]; rfl
      · exact (Below.refl _ _).alloc (Nat.le_refl _) _

theorem IndexFunc_named (s : ByteArray) (w : World) (hs : s.size ≤ 9223372036854775807) :
    Calls Try.prog 65 #[.string s, .func (.func 63) #[] #[]] w fun e w' => ∃ r : Int, e = .returned (.int .i64 r) ∧ decide (0 ≤ r) = !(s.data.toList.all goodB) ∧ Below w.heap.size w w' := by
  go_enter Try.func65, Try.ntmps65
  go_wp2_with (go_at_call 67; refine (indexFunc_named s w hs).mono ?_; rintro e w' ⟨r, rfl, h1, h2⟩; have H1 := hide h1; clear h1)
  go_ret
  exact ⟨r, rfl, H1.out, h2⟩
theorem ContainsFunc_named (s : ByteArray) (w : World) (hs : s.size ≤ 9223372036854775807) :
    Calls Try.prog 62 #[.string s, .func (.func 63) #[] #[]] w fun e w' => e = .returned (.bool !(s.data.toList.all goodB)) ∧ Below w.heap.size w w' := by
  go_enter Try.func62, Try.ntmps62
  go_wp2_with (go_at_call 65; refine (IndexFunc_named s w hs).mono ?_; rintro e w' ⟨r, rfl, h1, h2⟩; have H1 := hide h1; clear h1)
  go_ret
  exact ⟨by first | rfl | (rw [H1.out]; rfl), h2⟩

/-- Is it a trap's name? -/
def nameB (s : ByteArray) : Bool := decide (1 ≤ s.size) && (decide (s.size ≤ 20) && s.data.toList.all goodB)
theorem named_any (s : ByteArray) (w : World) (hs : s.size ≤ 9223372036854775807) :
    Calls Try.prog 52 #[.string s] w fun e w' => e = .returned (.bool (nameB s)) ∧ Below w.heap.size w w' := by
  have hnb : Hid (nameB s = (decide (1 ≤ s.size) && (decide (s.size ≤ 20) && s.data.toList.all goodB))) := rfl
  by_cases h1 : 1 ≤ s.size
  · by_cases h2 : s.size ≤ 20
    · go_enter Try.func52, Try.ntmps52
      go_wp2_with (go_at_call 62; refine (ContainsFunc_named s w hs).mono ?_; rintro e w' ⟨rfl, h3⟩)
      go_ret
      exact ⟨by rw [hnb.out]; simp [h1, h2], h3⟩
    · go_enter Try.func52, Try.ntmps52
      go_wp2_with fail
      go_ret
      exact ⟨by rw [hnb.out]; simp [h1, h2], Below.refl _ _⟩
  · go_enter Try.func52, Try.ntmps52
    go_wp2_with fail
    go_ret
    exact ⟨by rw [hnb.out]; simp [h1], Below.refl _ _⟩

def farB (n : Int) : Bool := decide (n < -1000000) || decide (1000000 < n)
theorem far_any (n : Int) (w : World) : Calls Try.prog 49 #[.int .i64 n] w fun e w' => e = .returned (.bool (farB n)) ∧ w = w' := by
  have hf : Hid (farB n = (decide (n < -1000000) || decide (1000000 < n))) := rfl
  by_cases h1 : n < -1000000
  · go_enter Try.func49, Try.ntmps49
    go_wp2_with fail
    go_ret
    exact ⟨by rw [hf.out, decide_eq_true h1]; rfl, rfl⟩
  · go_enter Try.func49, Try.ntmps49
    go_wp2_with fail
    go_ret
    exact ⟨by rw [hf.out, decide_eq_false (show ¬ n < -1000000 by omega)]; rfl, rfl⟩

theorem new_any (w : World) : Calls Try.prog 12 #[] w fun e w' => e = .returned (.pointer (some ⟨w.heap.size, 0, none⟩)) ∧ w' = w.alloc (.cells #[.slice none 0 0, .bool true] 55) := by
  go_enter Try.func12, Try.ntmps12
  go_wp2
  go_ret
  exact ⟨rfl, rfl⟩
theorem none_nil (w : World) : Calls Try.prog 23 #[.pointer none] w fun e w' => e = .returned (.bool true) ∧ w = w' := by
  go_enter Try.func23, Try.ntmps23
  go_wp2
  go_ret
  exact ⟨rfl, rfl⟩
theorem none_some (w : World) (g : Nat) (b : Bool) (h : w.cell? ⟨g, 1, none⟩ = some (.bool b)) : Calls Try.prog 23 #[.pointer (some ⟨g, 0, none⟩)] w fun e w' => e = .returned (.bool !b) ∧ w = w' := by
  go_enter Try.func23, Try.ntmps23
  go_wp2
  go_ret
  exact ⟨rfl, rfl⟩

/-- Where a trap lands on a page of a length. -/
def landsP (a len : Int) : Option Int :=
  if farB a = true ∨ len < 0 ∨ 1000000 < len then none else if (if a < 0 then a + len else a) < 0 ∨ len ≤ (if a < 0 then a + len else a) then none else some (if a < 0 then a + len else a)
theorem landsP_far {a len : Int} (h : farB a = true ∨ len < 0 ∨ 1000000 < len) : landsP a len = none := by unfold landsP; rw [if_pos h]
theorem landsP_out {a len : Int} {b : Int} (hb : b = if a < 0 then a + len else a) (h : b < 0 ∨ len ≤ b) : landsP a len = none := by
  unfold landsP
  rw [← hb]
  split
  · rfl
  · first | rfl | rw [if_pos h]
theorem landsP_in {a len : Int} {b : Int} (h0 : ¬ (farB a = true ∨ len < 0 ∨ 1000000 < len)) (hb : b = if a < 0 then a + len else a) (h : ¬ (b < 0 ∨ len ≤ b)) : landsP a len = some b := by
  unfold landsP
  rw [if_neg h0, ← hb, if_neg h]
theorem farB_bounds {a : Int} (h : farB a = false) : -1000000 ≤ a ∧ a ≤ 1000000 := by
  unfold farB at h
  simp at h
  omega
theorem Lands_any (a len : Int) (w : World) : Calls Try.prog 26 #[.int .i64 a, .int .i64 len] w fun e w' => e = .returned (.tuple #[.int .i64 ((landsP a len).getD 0), .bool (landsP a len).isSome]) ∧ w = w' := by
  cases hf : farB a with
  | true =>
    have hl := hide (landsP_far (a := a) (len := len) (.inl hf))
    go_enter Try.func26, Try.ntmps26
    go_wp2_with (go_at_call 49; refine (far_any _ _).mono ?_; rintro e w' ⟨rfl, rfl⟩)
    go_ret2
    exact ⟨by rw [hl.out]; rfl, rfl⟩
  | false =>
    obtain ⟨b1, b2⟩ := farB_bounds hf
    by_cases h1 : len < 0
    · have hl := hide (landsP_far (a := a) (len := len) (.inr (.inl h1)))
      go_enter Try.func26, Try.ntmps26
      go_wp2_with (go_at_call 49; refine (far_any _ _).mono ?_; rintro e w' ⟨rfl, rfl⟩)
      go_ret2
      exact ⟨by rw [hl.out]; rfl, rfl⟩
    · by_cases h2 : 1000000 < len
      · have hl := hide (landsP_far (a := a) (len := len) (.inr (.inr h2)))
        go_enter Try.func26, Try.ntmps26
        go_wp2_with (go_at_call 49; refine (far_any _ _).mono ?_; rintro e w' ⟨rfl, rfl⟩)
        go_ret2
        exact ⟨by rw [hl.out]; rfl, rfl⟩
      · have h0 : ¬ (farB a = true ∨ len < 0 ∨ 1000000 < len) := by simp [hf]; omega
        obtain ⟨b, hb⟩ : ∃ b, b = if a < 0 then a + len else a := ⟨_, rfl⟩
        have H0 := hide h0
        have HB := hide hb
        clear h0
        by_cases h3 : a < 0
        · rw [if_pos h3] at hb
          by_cases h4 : b < 0 ∨ len ≤ b
          · have hl := hide (landsP_out HB.out h4)
            rcases h4 with h4 | h4
            · rw [hb] at h4
              clear hb
              go_enter Try.func26, Try.ntmps26
              go_wp2_with (go_at_call 49; refine (far_any _ _).mono ?_; rintro e w' ⟨rfl, rfl⟩)
              go_ret2
              exact ⟨by rw [hl.out]; rfl, rfl⟩
            · exact absurd h3 (by omega)
          · have hl := hide (landsP_in H0.out HB.out h4)
            have h5 : ¬ (a + len < 0) := by omega
            have h6 : ¬ (len ≤ a + len) := by omega
            have hbb := hide hb
            clear hb h4
            go_enter Try.func26, Try.ntmps26
            go_wp2_with (go_at_call 49; refine (far_any _ _).mono ?_; rintro e w' ⟨rfl, rfl⟩)
            go_ret2
            exact ⟨by rw [hl.out, hbb.out]; rfl, rfl⟩
        · rw [if_neg h3] at hb
          by_cases h4 : b < 0 ∨ len ≤ b
          · have hl := hide (landsP_out HB.out h4)
            have h6 : len ≤ a := by omega
            have hbb := hide hb
            clear hb h4
            go_enter Try.func26, Try.ntmps26
            go_wp2_with (go_at_call 49; refine (far_any _ _).mono ?_; rintro e w' ⟨rfl, rfl⟩)
            go_ret2
            exact ⟨by rw [hl.out]; rfl, rfl⟩
          · have hl := hide (landsP_in H0.out HB.out h4)
            have h6 : ¬ (len ≤ a) := by omega
            have hbb := hide hb
            clear hb h4
            go_enter Try.func26, Try.ntmps26
            go_wp2_with (go_at_call 49; refine (far_any _ _).mono ?_; rintro e w' ⟨rfl, rfl⟩)
            go_ret2
            exact ⟨by rw [hl.out, hbb.out]; rfl, rfl⟩
end Go.Proofs.Ytpndigonlgnbeaa
