/- The small functions of package trap: New, none, far, named, Lands; strings.ContainsFunc with store.named's test. -/
import Derived.Test.YtbchokjhbjnfcaaBase3
import Derived.Test.YtbchokjhbjnfcaaRows
import Derived.Lib.IndexLaws
import Derived.Lib.Bytealg
import Derived.Laws.Externs
import Derived.Deep.DeepCutAuto
set_option linter.unusedVariables false
set_option linter.unusedSimpArgs false
namespace Go.Proofs.Ytbchokjhbjnfcaa
open Go.RowKit
set_option maxHeartbeats 1600000

def goodB (c : UInt8) : Bool := !(decide (c.toNat < 33) || decide (126 < c.toNat) || c.toNat == 93)
def badI (c : Int) : Bool := decide (c < 33) || decide (126 < c) || (c == 93)
theorem badI_good {c : UInt8} (h : goodB c = true) : badI (c.toNat : Int) = false := by
  unfold goodB at h; unfold badI
  rw [Bool.eq_false_iff]
  simp at h ⊢
  omega
theorem bad_of_good {c : UInt8} (h : goodB c = false) : badI (c.toNat : Int) = true := by
  unfold goodB at h; unfold badI
  simp at h ⊢
  omega
theorem goodB_high {c : UInt8} (h : 128 ≤ c.toNat) : goodB c = false := by
  unfold goodB
  simp
  omega
theorem badI_high {c : Nat} (h : 128 ≤ c) : badI (c : Int) = true := by
  unfold badI
  simp
  omega
theorem all_take_succ (s : ByteArray) (k : Nat) (h : k < s.size) : (s.data.toList.take (k + 1)).all goodB = ((s.data.toList.take k).all goodB && goodB (s[k]'h)) := by
  rw [List.take_succ_eq_append_getElem (by simpa using h), List.all_append]
  simp
  rfl
theorem all_of_take (s : ByteArray) (k : Nat) (h : k < s.size) (hb : goodB (s[k]'h) = false) : s.data.toList.all goodB = false := by
  rw [Bool.eq_false_iff]
  intro ha
  rw [List.all_eq_true] at ha
  have := ha (s[k]'h) (by
    have : s[k]'h = s.data.toList[k]'(by simpa using h) := rfl
    rw [this]; exact List.getElem_mem _)
  rw [hb] at this; cases this

theorem named1_any (c : Int) (w : World) :
    Calls Try.prog 50 #[.int .i32 c] w fun e w' => e = .returned (.bool (badI c)) ∧ w = w' := by
  go_enter Try.func50, Try.ntmps50
  go_wp2
  all_goals go_ret
  all_goals refine ⟨ret_bool ?_, rfl⟩
  all_goals unfold badI; simp_all

theorem indexFunc_named (s : ByteArray) (w : World) (hs : s.size ≤ 9223372036854775807) :
    Calls Try.prog 66 #[.string s, .func (.func 50) #[] #[], .bool true] w fun e w' => ∃ r : Int, e = .returned (.int .i64 r) ∧ decide (0 ≤ r) = !(s.data.toList.all goodB) ∧ Below w.heap.size w w' := by
  go_enter Try.func66, Try.ntmps66
  go_wp2
  go_loopw [] (fun wr => ∃ k : Nat, k ≤ s.size ∧ wr = w.iter s k ∧ (s.data.toList.take k).all goodB = true) (fun wr => s.size - wr.iterPos w.heap.size)
  case atStart => exact ⟨0, Nat.zero_le _, rfl, rfl⟩
  case round =>
    obtain ⟨k, hk, rfl, hg⟩ := hrel
    have HG := hide hg
    clear hg
    by_cases hlt : k < s.size
    · have hn := run_next_any (P := Try.prog) w s k 0 hlt
      by_cases ha : (s[k]'hlt).toNat < 128
      · rw [decode_ascii s k hlt ha] at hn
        by_cases hgd : goodB (s[k]'hlt) = true
        · have hbad := badI_good hgd
          go_wp2_with (go_at_call 50; refine (named1_any _ _).mono ?_; rintro e w' ⟨rfl, rfl⟩)
          go_roundw
          case rel => exact ⟨k + 1, by omega, rfl, by rw [all_take_succ s k hlt, HG.out, hgd]; rfl⟩
          case measure => simp; omega
        · have hgf : goodB (s[k]'hlt) = false := by simpa using hgd
          have hbad := bad_of_good hgf
          go_wp2_with (go_at_call 50; refine (named1_any _ _).mono ?_; rintro e w' ⟨rfl, rfl⟩)
          go_ret
          exact ⟨_, rfl, by rw [all_of_take s k hlt hgf]; simp, (Below.refl _ _).alloc (Nat.le_refl _) _⟩
      · have hgf := goodB_high (c := s[k]'hlt) (by omega)
        have hbad := badI_high (decode_high s k hlt (by omega)).1
        go_wp2_with (go_at_call 50; refine (named1_any _ _).mono ?_; rintro e w' ⟨rfl, rfl⟩)
        go_ret
        exact ⟨_, rfl, by rw [all_of_take s k hlt hgf]; simp, (Below.refl _ _).alloc (Nat.le_refl _) _⟩
    · have hn := run_next_end (P := Try.prog) w s k 0 hlt
      go_wp2
      go_ret
      refine ⟨_, rfl, ?_, ?_⟩
      · have : k = s.size := by omega
        have h := HG.out
        rw [List.take_of_length_le (by simp; omega)] at h
        rw [h]; rfl
      · exact (Below.refl _ _).alloc (Nat.le_refl _) _

theorem IndexFunc_named (s : ByteArray) (w : World) (hs : s.size ≤ 9223372036854775807) :
    Calls Try.prog 61 #[.string s, .func (.func 50) #[] #[]] w fun e w' => ∃ r : Int, e = .returned (.int .i64 r) ∧ decide (0 ≤ r) = !(s.data.toList.all goodB) ∧ Below w.heap.size w w' := by
  go_enter Try.func61, Try.ntmps61
  go_wp2_with (go_at_call 66; refine (indexFunc_named s w hs).mono ?_; rintro e w' ⟨r, rfl, h1, h2⟩; have H1 := hide h1; clear h1)
  go_ret
  exact ⟨r, rfl, H1.out, h2⟩
theorem ContainsFunc_named (s : ByteArray) (w : World) (hs : s.size ≤ 9223372036854775807) :
    Calls Try.prog 49 #[.string s, .func (.func 50) #[] #[]] w fun e w' => e = .returned (.bool !(s.data.toList.all goodB)) ∧ Below w.heap.size w w' := by
  go_enter Try.func49, Try.ntmps49
  go_wp2_with (go_at_call 61; refine (IndexFunc_named s w hs).mono ?_; rintro e w' ⟨r, rfl, h1, h2⟩; have H1 := hide h1; clear h1)
  go_ret
  exact ⟨by first | rfl | (rw [H1.out]; rfl), h2⟩

/-- Is it a name? -/
def nameB (s : ByteArray) : Bool := decide (1 ≤ s.size) && (decide (s.size ≤ 20) && s.data.toList.all goodB)
theorem named_any (s : ByteArray) (w : World) (hs : s.size ≤ 9223372036854775807) :
    Calls Try.prog 31 #[.string s] w fun e w' => e = .returned (.bool (nameB s)) ∧ Below w.heap.size w w' := by
  have hnb : Hid (nameB s = (decide (1 ≤ s.size) && (decide (s.size ≤ 20) && s.data.toList.all goodB))) := rfl
  by_cases h1 : 1 ≤ s.size
  · by_cases h2 : s.size ≤ 20
    · go_enter Try.func31, Try.ntmps31
      go_wp2_with (go_at_call 49; refine (ContainsFunc_named s w hs).mono ?_; rintro e w' ⟨rfl, h3⟩)
      go_ret
      exact ⟨by rw [hnb.out]; simp [h1, h2], h3⟩
    · go_enter Try.func31, Try.ntmps31
      go_wp2_with fail
      go_ret
      exact ⟨by rw [hnb.out]; simp [h1, h2], Below.refl _ _⟩
  · go_enter Try.func31, Try.ntmps31
    go_wp2_with fail
    go_ret
    exact ⟨by rw [hnb.out]; simp [h1], Below.refl _ _⟩


/-- Does a text hold no newline? -/
def flatB (s : ByteArray) : Bool := s.data.toList.all fun c => c != 10
theorem flat_index (s : ByteArray) : decide (0 ≤ Lib.indexByte s.data.toList 10) = !(flatB s) := by
  unfold flatB
  cases h : s.data.toList.all fun c => c != 10 with
  | true =>
    rw [List.all_eq_true] at h
    rw [Bool.not_true, decide_eq_false_iff_not]
    intro h0
    obtain ⟨o, ho⟩ : ∃ o : Nat, Lib.indexByte s.data.toList 10 = o := ⟨(Lib.indexByte s.data.toList 10).toNat, by omega⟩
    obtain ⟨h1, -⟩ := Lib.indexByte_some ho
    have := h _ (List.mem_of_getElem? h1)
    simp at this
  | false =>
    rw [Bool.not_false, decide_eq_true_iff]
    rcases Int.lt_or_le (Lib.indexByte s.data.toList 10) 0 with h0 | h0
    · have hm : Lib.indexByte s.data.toList 10 = -1 := by have := Lib.indexByte_ge s.data.toList 10; omega
      have hn := Lib.indexByte_none hm
      exfalso
      rw [List.all_eq_false] at h
      obtain ⟨x, hx, hx2⟩ := h
      obtain ⟨k, hk, rfl⟩ := List.mem_iff_getElem.1 hx
      refine hn k ?_
      rw [List.getElem?_eq_getElem hk]
      simpa using hx2
    · exact h0
/-- Can a text be a line's? -/
def fitsB (s : ByteArray) : Bool := decide (s.size ≤ 2000) && flatB s

theorem IndexByte_any (s : ByteArray) (w : World) : Calls Try.prog 78 #[.string s, .int .u8 10] w fun e w' => e = .returned (.int .i64 (Lib.indexByte s.data.toList 10)) ∧ w = w' := by
  have hd : (callFunc 88 #[.string s, .int .u8 10]).run Try.prog w = ((Extern.BytealgIndexByte.indexByte #[.string s, .int .u8 10]).run Try.prog w).andThen fun v w' => .ok (.value v) w' :=
    run_callFunc_extern Try.func88 (by kernel_rfl) (by kernel_rfl) (by kernel_rfl) (by kernel_rfl) _ _
  rw [Lib.run_indexByteString] at hd
  go_enter Try.func78, Try.ntmps78
  go_wp2_with fail
  go_ret
  exact ⟨rfl, rfl⟩
theorem slIndex_any (s : ByteArray) (w : World) : Calls Try.prog 65 #[.string s, .string ⟨#[10]⟩] w fun e w' => ∃ r : Int, e = .returned (.int .i64 r) ∧ decide (0 ≤ r) = !(flatB s) ∧ w = w' := by
  have hc : (⟨#[10]⟩ : ByteArray).toList = [10] := Lib.toList_data _
  cases hq : ([10] == s.toList) with
  | true =>
    have hs : s = ⟨#[10]⟩ := by
      have h := beq_iff_eq.1 hq
      rw [Lib.toList_data] at h
      exact WideShapes.bytes_inj h.symm
    clear hq
    subst hs
    have hx : decide ((0 : Int) ≤ 0) = !(flatB ⟨#[10]⟩) := by kernel_rfl
    have HX := hide hx
    clear hx
    go_enter Try.func65, Try.ntmps65
    go_wp2_with fail
    go_ret
    exact ⟨0, by simp, HX.out, rfl⟩
  | false =>
    go_enter Try.func65, Try.ntmps65
    go_wp2_with (go_at_call 78; refine (IndexByte_any _ _).mono ?_; rintro e w' ⟨rfl, rfl⟩)
    go_ret
    exact ⟨_, rfl, flat_index s, rfl⟩
theorem Index_any (s : ByteArray) (w : World) : Calls Try.prog 60 #[.string s, .string ⟨#[10]⟩] w fun e w' => ∃ r : Int, e = .returned (.int .i64 r) ∧ decide (0 ≤ r) = !(flatB s) ∧ w = w' := by
  go_enter Try.func60, Try.ntmps60
  go_wp2_with (go_at_call 65; refine (slIndex_any _ _).mono ?_; rintro e w' ⟨r, rfl, h1, rfl⟩; have H1 := hide h1; clear h1)
  go_ret
  exact ⟨r, rfl, H1.out, rfl⟩
theorem Contains_any (s : ByteArray) (w : World) : Calls Try.prog 48 #[.string s, .string ⟨#[10]⟩] w fun e w' => e = .returned (.bool !(flatB s)) ∧ w = w' := by
  go_enter Try.func48, Try.ntmps48
  go_wp2_with (go_at_call 60; refine (Index_any _ _).mono ?_; rintro e w' ⟨r, rfl, h1, rfl⟩; have H1 := hide h1; clear h1)
  go_ret
  exact ⟨ret_bool H1.out, rfl⟩
theorem fits_any (s : ByteArray) (w : World) (hs : s.size ≤ 9223372036854775807) : Calls Try.prog 30 #[.string s] w fun e w' => e = .returned (.bool (fitsB s)) ∧ w = w' := by
  have hfb : Hid (fitsB s = (decide (s.size ≤ 2000) && flatB s)) := rfl
  by_cases h1 : s.size ≤ 2000
  · go_enter Try.func30, Try.ntmps30
    go_wp2_with (go_at_call 48; refine (Contains_any _ _).mono ?_; rintro e w' ⟨rfl, rfl⟩)
    go_ret
    exact ⟨ret_bool (by rw [hfb.out]; simp [h1]), rfl⟩
  · go_enter Try.func30, Try.ntmps30
    go_wp2_with fail
    go_ret
    exact ⟨ret_bool (by rw [hfb.out]; simp [h1]), rfl⟩
end Go.Proofs.Ytbchokjhbjnfcaa
