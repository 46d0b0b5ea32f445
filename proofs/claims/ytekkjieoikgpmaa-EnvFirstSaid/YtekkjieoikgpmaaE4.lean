/- Texts of bytes from 33 to 126; numbers within bounds; one byte's place. -/
import Derived.Test.YtekkjieoikgpmaaE3
import Derived.StringKeys
set_option linter.unusedVariables false
set_option linter.unusedSimpArgs false
namespace Go.Proofs.Ytekkjieoikgpmaa
open Go.RowKit
set_option maxHeartbeats 1600000
set_option maxRecDepth 1000000

def goodB (c : UInt8) : Bool := decide (33 ≤ c.toNat) && decide (c.toNat ≤ 126)
def badI (c : Int) : Bool := decide (c < 33) || decide (126 < c)
theorem badI_good {c : UInt8} (h : goodB c = true) : badI (c.toNat : Int) = false := by
  unfold goodB at h; unfold badI
  rw [Bool.eq_false_iff]
  simp at h ⊢
  omega
theorem bad_of_good {c : UInt8} (h : goodB c = false) : badI (c.toNat : Int) = true := by
  unfold goodB at h; unfold badI
  simp at h ⊢
  omega
theorem goodB_high {c : UInt8} (h : 128 ≤ c.toNat) : goodB c = false := by
  unfold goodB
  simp
  omega
theorem badI_high {c : Nat} (h : 128 ≤ c) : badI (c : Int) = true := by
  unfold badI
  simp
  omega
theorem all_take_succ (s : ByteArray) (k : Nat) (h : k < s.size) : (s.data.toList.take (k + 1)).all goodB = ((s.data.toList.take k).all goodB && goodB (s[k]'h)) := by
  rw [List.take_succ_eq_append_getElem (by simpa using h), List.all_append]
  simp
  rfl
theorem all_of_take (s : ByteArray) (k : Nat) (h : k < s.size) (hb : goodB (s[k]'h) = false) : s.data.toList.all goodB = false := by
  rw [Bool.eq_false_iff]
  intro ha
  rw [List.all_eq_true] at ha
  have := ha (s[k]'h) (by
    have : s[k]'h = s.data.toList[k]'(by simpa using h) := rfl
    rw [this]; exact List.getElem_mem _)
  rw [hb] at this; cases this
theorem colour1_any (c : Int) (w : World) : Calls Try.prog 87 #[.int .i32 c] w fun e w' => e = .returned (.bool (badI c)) ∧ w = w' := by
  go_enter Try.func87, Try.ntmps87
  go_wp2
  all_goals go_ret
  all_goals refine ⟨ret_bool ?_, rfl⟩
  all_goals unfold badI; simp_all
theorem named1_any (c : Int) (w : World) : Calls Try.prog 88 #[.int .i32 c] w fun e w' => e = .returned (.bool (badI c)) ∧ w = w' := by
  go_enter Try.func88, Try.ntmps88
  go_wp2
  all_goals go_ret
  all_goals refine ⟨ret_bool ?_, rfl⟩
  all_goals unfold badI; simp_all
section
variable (gf : Nat) (eg : ∀ args w, (callFunc gf args).run Try.prog w = .ok (.enter gf args) w) (hp : ∀ (c : Int) (W : World), Calls Try.prog gf #[.int .i32 c] W fun e W' => e = .returned (.bool (badI c)) ∧ W = W')
include eg hp
theorem indexFunc_bad (s : ByteArray) (w : World) (hs : s.size ≤ 9223372036854775807) :
    Calls Try.prog 94 #[.string s, .func (.func gf) #[] #[], .bool true] w fun e w' => ∃ r : Int, e = .returned (.int .i64 r) ∧ decide (0 ≤ r) = !(s.data.toList.all goodB) ∧ Below w.heap.size w w' := by
  have HP := hide hp
  clear hp
  go_enter Try.func94, Try.ntmps94
  go_wp2
  go_loopw [] (fun wr => ∃ k : Nat, k ≤ s.size ∧ wr = w.iter s k ∧ (s.data.toList.take k).all goodB = true) (fun wr => s.size - wr.iterPos w.heap.size)
  case atStart => exact ⟨0, Nat.zero_le _, rfl, rfl⟩
  case round =>
    obtain ⟨k, hk, rfl, hg⟩ := hrel
    have HG := hide hg
    clear hg
    by_cases hlt : k < s.size
    · have hn := run_next_any (P := Try.prog) w s k 0 hlt
      by_cases ha : (s[k]'hlt).toNat < 128
      · rw [decode_ascii s k hlt ha] at hn
        by_cases hgd : goodB (s[k]'hlt) = true
        · have hbad := badI_good hgd
          go_wp2_with (go_at_fn gf; refine (HP.out _ _).mono ?_; rintro e w' ⟨rfl, rfl⟩)
          go_roundw
          case rel => exact ⟨k + 1, by omega, rfl, by rw [all_take_succ s k hlt, HG.out, hgd]; rfl⟩
          case measure => simp; omega
        · have hgf : goodB (s[k]'hlt) = false := by simpa using hgd
          have hbad := bad_of_good hgf
          go_wp2_with (go_at_fn gf; refine (HP.out _ _).mono ?_; rintro e w' ⟨rfl, rfl⟩)
          go_ret
          exact ⟨_, rfl, by rw [all_of_take s k hlt hgf]; simp, (Below.refl _ _).alloc (Nat.le_refl _) _⟩
      · have hgf := goodB_high (c := s[k]'hlt) (by omega)
        have hbad := badI_high (decode_high s k hlt (by omega)).1
        go_wp2_with (go_at_fn gf; refine (HP.out _ _).mono ?_; rintro e w' ⟨rfl, rfl⟩)
        go_ret
        exact ⟨_, rfl, by rw [all_of_take s k hlt hgf]; simp, (Below.refl _ _).alloc (Nat.le_refl _) _⟩
    · have hn := run_next_end (P := Try.prog) w s k 0 hlt
      go_wp2
      go_ret
      refine ⟨_, rfl, ?_, ?_⟩
      · have : k = s.size := by omega
        have h := HG.out
        rw [List.take_of_length_le (by simp; omega)] at h
        rw [h]; rfl
      · exact (Below.refl _ _).alloc (Nat.le_refl _) _
theorem IndexFunc_bad (s : ByteArray) (w : World) (hs : s.size ≤ 9223372036854775807) :
    Calls Try.prog 85 #[.string s, .func (.func gf) #[] #[]] w fun e w' => ∃ r : Int, e = .returned (.int .i64 r) ∧ decide (0 ≤ r) = !(s.data.toList.all goodB) ∧ Below w.heap.size w w' := by
  have H := hide (indexFunc_bad gf eg hp s w hs)
  clear hp
  go_enter Try.func85, Try.ntmps85
  go_wp2_with (go_at_call 94; refine (H.out).mono ?_; rintro e w' ⟨r, rfl, h1, h2⟩; have H1 := hide h1; clear h1)
  go_ret
  exact ⟨r, rfl, H1.out, h2⟩
theorem ContainsFunc_bad (s : ByteArray) (w : World) (hs : s.size ≤ 9223372036854775807) :
    Calls Try.prog 62 #[.string s, .func (.func gf) #[] #[]] w fun e w' => e = .returned (.bool !(s.data.toList.all goodB)) ∧ Below w.heap.size w w' := by
  have H := hide (IndexFunc_bad gf eg hp s w hs)
  clear hp
  go_enter Try.func62, Try.ntmps62
  go_wp2_with (go_at_call 85; refine (H.out).mono ?_; rintro e w' ⟨r, rfl, h1, h2⟩; have H1 := hide h1; clear h1)
  go_ret
  exact ⟨by first | rfl | (rw [H1.out]; rfl), h2⟩
end
/-- Can it be a colour? A glyph's name? -/
def colourB (s : ByteArray) : Bool := decide (s.size ≤ 20) && s.data.toList.all goodB
def namedB (s : ByteArray) : Bool := decide (1 ≤ s.size) && (decide (s.size ≤ 10) && s.data.toList.all goodB)
theorem colour_any (s : ByteArray) (w : World) : Calls Try.prog 67 #[.string s] w fun e w' => e = .returned (.bool (colourB s)) ∧ Below w.heap.size w w' := by
  have hnb : Hid (colourB s = (decide (s.size ≤ 20) && s.data.toList.all goodB)) := hide rfl
  by_cases h2 : s.size ≤ 20
  · go_enter Try.func67, Try.ntmps67
    go_wp2_with (go_at_call 62; refine (ContainsFunc_bad 87 (fun _ _ => rfl) (fun c W => colour1_any c W) s w (by omega)).mono ?_; rintro e w' ⟨rfl, h3⟩)
    go_ret
    exact ⟨by rw [hnb.out]; simp [h2], h3⟩
  · go_enter Try.func67, Try.ntmps67
    go_wp2_with fail
    go_ret
    exact ⟨by rw [hnb.out]; simp [h2], Below.refl _ _⟩
theorem named_any (s : ByteArray) (w : World) : Calls Try.prog 68 #[.string s] w fun e w' => e = .returned (.bool (namedB s)) ∧ Below w.heap.size w w' := by
  have hnb : Hid (namedB s = (decide (1 ≤ s.size) && (decide (s.size ≤ 10) && s.data.toList.all goodB))) := hide rfl
  by_cases h1 : 1 ≤ s.size
  · by_cases h2 : s.size ≤ 10
    · go_enter Try.func68, Try.ntmps68
      go_wp2_with (go_at_call 62; refine (ContainsFunc_bad 88 (fun _ _ => rfl) (fun c W => named1_any c W) s w (by omega)).mono ?_; rintro e w' ⟨rfl, h3⟩)
      go_ret
      exact ⟨by rw [hnb.out]; simp [h1, h2], h3⟩
    · go_enter Try.func68, Try.ntmps68
      go_wp2_with fail
      go_ret
      exact ⟨by rw [hnb.out]; simp [h1, h2], Below.refl _ _⟩
  · go_enter Try.func68, Try.ntmps68
    go_wp2_with fail
    go_ret
    exact ⟨by rw [hnb.out]; simp [h1], Below.refl _ _⟩

/-! ### numbers -/
def allI (p : Int → Bool) (l : List Int) : Bool := l.all fun n => !(p n)
theorem take_alli (p : Int → Bool) (l : List Int) (k : Nat) (h : k < l.length) : allI p (l.take (k + 1)) = (allI p (l.take k) && !(p l[k])) := by
  unfold allI
  rw [List.take_succ_eq_append_getElem h, List.all_append]
  simp
theorem hit_alli (p : Int → Bool) (l : List Int) (k : Nat) (h : k < l.length) (hb : p l[k] = true) : allI p l = false := by
  unfold allI
  rw [Bool.eq_false_iff]
  intro ha
  have := List.all_eq_true.1 ha l[k] (List.getElem_mem _)
  rw [hb] at this
  cases this
theorem rd_int {w : World} {ok : Nat → Prop} {A : Option Addr} {n i : Nat} {l : List Int} {x : Int} (h : Kind.int.Rd w ok A n l) (hx : l[i]? = some x) :
    ∃ b off, A = some ⟨b, off, none⟩ ∧ w.cell? ⟨b, off + i, none⟩ = some (.int .i64 x) := by
  obtain ⟨hi, rfl⟩ := List.getElem?_eq_some_iff.1 hx
  obtain ⟨b, off, cs, e, _, hK, hc⟩ := h.at_ hi
  subst hK
  have h0 := hc 0 _ rfl
  rw [show off + i * Kind.int.sz + 0 = off + i from by show off + i * 1 + 0 = off + i; omega] at h0
  exact ⟨b, off, e, h0⟩
section
variable (p : Int → Bool) (gf : Nat) (eg : ∀ args w, (callFunc gf args).run Try.prog w = .ok (.enter gf args) w) (hp : ∀ (c : Int) (W : World), Calls Try.prog gf #[.int .i64 c] W fun e W' => e = .returned (.bool (p c)) ∧ W = W')
include eg hp
theorem IndexFunc_int (A : Option Addr) (n c : Nat) (l : List Int) (ok : Nat → Prop) (w : World) (hr : Kind.int.Rd w ok A n l) (hn : n ≤ 9223372036854775807) :
    Calls Try.prog 90 #[.slice A n c, .func (.func gf) #[] #[]] w fun e w' => ∃ r : Int, e = .returned (.int .i64 r) ∧ decide (0 ≤ r) = !(allI p l) ∧ w = w' := by
  have HR := hide hr
  have hln : l.length = n := hr.1
  have HLN := hide hln
  have HP := hide hp
  clear hr hln hp
  go_enter Try.func90, Try.ntmps90
  go_wp2_with fail
  go_loop [5, 8] (fun _ t8 => ∃ k : Nat, t8 = .int .i64 k ∧ k ≤ n ∧ Hid (allI p (l.take k) = true)) (fun _ t8 => n - (intOf t8).toNat)
  case atStart => exact ⟨0, rfl, Nat.zero_le _, hide rfl⟩
  case round =>
    obtain ⟨k, rfl, hk, HG⟩ := hrel
    by_cases hlt : k < n
    · have hkl : k < l.length := by have := HLN.out; omega
      have hts := take_alli p l k hkl
      rw [HG.out] at hts
      obtain ⟨x, hx⟩ : ∃ x, x = l[k] := ⟨_, rfl⟩
      obtain ⟨b, off, rfl, z0⟩ := rd_int HR.out (x := x) (by rw [hx]; exact List.getElem?_eq_getElem hkl)
      have hhit := hit_alli p l k hkl
      rw [← hx] at hts hhit
      have HTS := hide hts
      have HHIT := hide hhit
      clear hts hhit hx
      cases hb : p x with
      | true =>
        have HB := hide hb
        clear hb
        go_wp2_with (go_at_fn gf; refine (HP.out x _).mono ?_; rw [HB.out]; rintro e w2 ⟨rfl, rfl⟩)
        go_ret
        exact ⟨(k : Int), rfl, by rw [HHIT.out HB.out]; simp, rfl⟩
      | false =>
        have HB := hide hb
        clear hb
        go_wp2_with (go_at_fn gf; refine (HP.out x _).mono ?_; rw [HB.out]; rintro e w2 ⟨rfl, rfl⟩)
        go_round
        case rel => exact ⟨k + 1, by go_num, by omega, hide (by rw [HTS.out, HB.out]; rfl)⟩
        case measure => simp [intOf]; omega
    · have hg := HG.out
      rw [List.take_of_length_le (by have := HLN.out; omega)] at hg
      have HA := hide hg
      clear hg
      go_wp2_with fail
      go_ret
      exact ⟨-1, rfl, by rw [HA.out]; rfl, rfl⟩
theorem ContainsFunc_int (A : Option Addr) (n c : Nat) (l : List Int) (ok : Nat → Prop) (w : World) (hr : Kind.int.Rd w ok A n l) (hn : n ≤ 9223372036854775807) :
    Calls Try.prog 71 #[.slice A n c, .func (.func gf) #[] #[]] w fun e w' => e = .returned (.bool !(allI p l)) ∧ w = w' := by
  have H := hide (IndexFunc_int p gf eg hp A n c l ok w hr hn)
  clear hr hp
  go_enter Try.func71, Try.ntmps71
  go_wp2_with (go_at_call 90; refine (H.out).mono ?_; rintro e w' ⟨r, rfl, h1, rfl⟩; have H1 := hide h1; clear h1)
  go_ret
  exact ⟨ret_bool H1.out, rfl⟩
end
def farV (n : Int) : Bool := decide (n < -1000000) || decide (1000000 < n)
theorem Valid1_any (c : Int) (w : World) : Calls Try.prog 69 #[.int .i64 c] w fun e w' => e = .returned (.bool (farV c)) ∧ w = w' := by
  go_enter Try.func69, Try.ntmps69
  go_wp2
  all_goals go_ret
  all_goals refine ⟨ret_bool ?_, rfl⟩
  all_goals unfold farV; simp_all
/-! ### one byte in "lcea~" -/
def strokeB (s : ByteArray) : Bool := (s.data.toList == [108]) || (s.data.toList == [99]) || (s.data.toList == [101]) || (s.data.toList == [97]) || (s.data.toList == [126])
theorem IndexByte_any (s : ByteArray) (b : UInt8) (w : World) : Calls Try.prog 64 #[.string s, .int .u8 (b.toNat : Int)] w fun e w' => e = .returned (.int .i64 (Lib.indexByte s.data.toList b)) ∧ w = w' := by
  have hd : (callFunc 86 #[.string s, .int .u8 (b.toNat : Int)]).run Try.prog w = ((Extern.BytealgIndexByte.indexByte #[.string s, .int .u8 (b.toNat : Int)]).run Try.prog w).andThen fun v w' => .ok (.value v) w' :=
    run_callFunc_extern Try.func86 (by kernel_rfl) (by kernel_rfl) (by kernel_rfl) (by kernel_rfl) _ _
  rw [Lib.run_indexByteString] at hd
  have hb : UInt8.ofNat (b.toNat) = b := by simp
  simp only [Int.toNat_natCast, hb] at hd
  go_enter Try.func64, Try.ntmps64
  go_wp2_with fail
  go_ret
  exact ⟨rfl, rfl⟩
end Go.Proofs.Ytekkjieoikgpmaa
