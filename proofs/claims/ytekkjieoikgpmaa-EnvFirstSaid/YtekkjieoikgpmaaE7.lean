/- env.text, env.named; strings.IndexByte; margin.Valid; tabs.Valid. -/
import Derived.Test.YtekkjieoikgpmaaE4
set_option linter.unusedVariables false
set_option linter.unusedSimpArgs false
namespace Go.Proofs.Ytekkjieoikgpmaa
open Go.RowKit
set_option maxHeartbeats 1600000
set_option maxRecDepth 1000000

theorem text1_any (c : Int) (w : World) : Calls Try.prog 63 #[.int .i32 c] w fun e w' => e = .returned (.bool (badI c)) ∧ w = w' := by
  go_enter Try.func63, Try.ntmps63
  go_wp2
  all_goals go_ret
  all_goals refine ⟨ret_bool ?_, rfl⟩
  all_goals unfold badI; simp_all
/-- A text of at most m bytes from 33 to 126. -/
def textB (s : ByteArray) (m : Nat) : Bool := decide (s.size ≤ m) && s.data.toList.all goodB
theorem text_10 (s : ByteArray) (w : World) : Calls Try.prog 34 #[.string s, .int .i64 10] w fun e w' => e = .returned (.bool (textB s 10)) ∧ Below w.heap.size w w' := by
  have hnb : Hid (textB s 10 = (decide (s.size ≤ 10) && s.data.toList.all goodB)) := hide rfl
  by_cases h2 : s.size ≤ 10
  · go_enter Try.func34, Try.ntmps34
    go_wp2_with (go_at_call 62; refine (ContainsFunc_bad 63 (fun _ _ => rfl) (fun c W => text1_any c W) s w (by omega)).mono ?_; rintro e w' ⟨rfl, h3⟩)
    go_ret
    exact ⟨by rw [hnb.out]; simp [h2], h3⟩
  · go_enter Try.func34, Try.ntmps34
    go_wp2_with fail
    go_ret
    exact ⟨by rw [hnb.out]; simp [h2], Below.refl _ _⟩
theorem text_20 (s : ByteArray) (w : World) : Calls Try.prog 34 #[.string s, .int .i64 20] w fun e w' => e = .returned (.bool (textB s 20)) ∧ Below w.heap.size w w' := by
  have hnb : Hid (textB s 20 = (decide (s.size ≤ 20) && s.data.toList.all goodB)) := hide rfl
  by_cases h2 : s.size ≤ 20
  · go_enter Try.func34, Try.ntmps34
    go_wp2_with (go_at_call 62; refine (ContainsFunc_bad 63 (fun _ _ => rfl) (fun c W => text1_any c W) s w (by omega)).mono ?_; rintro e w' ⟨rfl, h3⟩)
    go_ret
    exact ⟨by rw [hnb.out]; simp [h2], h3⟩
  · go_enter Try.func34, Try.ntmps34
    go_wp2_with fail
    go_ret
    exact ⟨by rw [hnb.out]; simp [h2], Below.refl _ _⟩

/-! ### one byte in a text -/
/-- Does a text lack a byte? -/
def lacksB (b : UInt8) (s : ByteArray) : Bool := s.data.toList.all fun c => c != b
theorem lacks_index (s : ByteArray) (b : UInt8) : decide (0 ≤ Lib.indexByte s.data.toList b) = !(lacksB b s) := by
  unfold lacksB
  cases h : s.data.toList.all fun c => c != b with
  | true =>
    rw [List.all_eq_true] at h
    rw [Bool.not_true, decide_eq_false_iff_not]
    intro h0
    obtain ⟨o, ho⟩ : ∃ o : Nat, Lib.indexByte s.data.toList b = o := ⟨(Lib.indexByte s.data.toList b).toNat, by omega⟩
    obtain ⟨h1, -⟩ := Lib.indexByte_some ho
    have := h _ (List.mem_of_getElem? h1)
    simp at this
  | false =>
    rw [Bool.not_false, decide_eq_true_iff]
    rcases Int.lt_or_le (Lib.indexByte s.data.toList b) 0 with h0 | h0
    · have hm : Lib.indexByte s.data.toList b = -1 := by have := Lib.indexByte_ge s.data.toList b; omega
      have hn := Lib.indexByte_none hm
      exfalso
      rw [List.all_eq_false] at h
      obtain ⟨x, hx, hx2⟩ := h
      obtain ⟨k, hk, rfl⟩ := List.mem_iff_getElem.1 hx
      refine hn k ?_
      rw [List.getElem?_eq_getElem hk]
      simpa using hx2
    · exact h0
theorem slIndex_93 (s : ByteArray) (w : World) : Calls Try.prog 95 #[.string s, .string ⟨#[93]⟩] w fun e w' => ∃ r : Int, e = .returned (.int .i64 r) ∧ decide (0 ≤ r) = !(lacksB 93 s) ∧ w = w' := by
  have hc : (⟨#[93]⟩ : ByteArray).toList = [93] := Lib.toList_data _
  cases hq : ([93] == s.toList) with
  | true =>
    have hs : s = ⟨#[93]⟩ := by
      have h := beq_iff_eq.1 hq
      rw [Lib.toList_data] at h
      exact WideShapes.bytes_inj h.symm
    clear hq
    subst hs
    have hx : decide ((0 : Int) ≤ 0) = !(lacksB 93 ⟨#[93]⟩) := by kernel_rfl
    have HX := hide hx
    clear hx
    go_enter Try.func95, Try.ntmps95
    go_wp2_with fail
    go_ret
    exact ⟨0, by simp, HX.out, rfl⟩
  | false =>
    go_enter Try.func95, Try.ntmps95
    go_wp2_with (go_at_call 64; refine (IndexByte_any _ 93 _).mono ?_; rintro e w' ⟨rfl, rfl⟩)
    go_ret
    exact ⟨_, rfl, lacks_index s 93, rfl⟩
theorem Index_93 (s : ByteArray) (w : World) : Calls Try.prog 89 #[.string s, .string ⟨#[93]⟩] w fun e w' => ∃ r : Int, e = .returned (.int .i64 r) ∧ decide (0 ≤ r) = !(lacksB 93 s) ∧ w = w' := by
  go_enter Try.func89, Try.ntmps89
  go_wp2_with (go_at_call 95; refine (slIndex_93 _ _).mono ?_; rintro e w' ⟨r, rfl, h1, rfl⟩; have H1 := hide h1; clear h1)
  go_ret
  exact ⟨r, rfl, H1.out, rfl⟩
theorem Contains_93 (s : ByteArray) (w : World) : Calls Try.prog 70 #[.string s, .string ⟨#[93]⟩] w fun e w' => e = .returned (.bool !(lacksB 93 s)) ∧ w = w' := by
  go_enter Try.func70, Try.ntmps70
  go_wp2_with (go_at_call 89; refine (Index_93 _ _).mono ?_; rintro e w' ⟨r, rfl, h1, rfl⟩; have H1 := hide h1; clear h1)
  go_ret
  exact ⟨ret_bool H1.out, rfl⟩
/-- Can it be a name? -/
def nameB (s : ByteArray) : Bool := decide (1 ≤ s.size) && (textB s 20 && lacksB 93 s)
theorem named_env (s : ByteArray) (w : World) : Calls Try.prog 53 #[.string s] w fun e w' => e = .returned (.bool (nameB s)) ∧ Below w.heap.size w w' := by
  have hnb : Hid (nameB s = (decide (1 ≤ s.size) && (textB s 20 && lacksB 93 s))) := hide rfl
  by_cases h1 : 1 ≤ s.size
  · cases h2 : textB s 20 with
    | true =>
      have H2 := hide h2
      clear h2
      go_enter Try.func53, Try.ntmps53
      go_wp2_with (first
        | (go_at_call 34; refine (text_20 s _).mono ?_; rw [H2.out]; rintro e w1 ⟨rfl, q⟩; have Q := hide q; clear q)
        | (go_at_call 70; refine (Contains_93 s _).mono ?_; rintro e w2 ⟨rfl, rfl⟩))
      go_ret
      exact ⟨by rw [hnb.out, H2.out]; simp [h1], Q.out⟩
    | false =>
      have H2 := hide h2
      clear h2
      go_enter Try.func53, Try.ntmps53
      go_wp2_with (first
        | (go_at_call 34; refine (text_20 s _).mono ?_; rw [H2.out]; rintro e w1 ⟨rfl, q⟩; have Q := hide q; clear q))
      go_ret
      exact ⟨by rw [hnb.out, H2.out]; simp, Q.out⟩
  · go_enter Try.func53, Try.ntmps53
    go_wp2_with fail
    go_ret
    exact ⟨by rw [hnb.out]; simp [h1], Below.refl _ _⟩
/-- Is a byte in a text? -/
def inB (L : List UInt8) (b : UInt8) : Bool := decide (0 ≤ Lib.indexByte L b)
theorem strIndexByte (s : ByteArray) (b : UInt8) (w : World) : Calls Try.prog 35 #[.string s, .int .u8 (b.toNat : Int)] w fun e w' => e = .returned (.int .i64 (Lib.indexByte s.data.toList b)) ∧ w = w' := by
  go_enter Try.func35, Try.ntmps35
  go_wp2_with (go_at_call 64; refine (IndexByte_any s b _).mono ?_; rintro e w' ⟨rfl, rfl⟩)
  go_ret
  exact ⟨rfl, rfl⟩

/-! ### numbering -/
def withinB (n lo hi : Int) : Bool := decide (lo ≤ n) && decide (n ≤ hi)
theorem within_any (n lo hi : Int) (w : World) : Calls Try.prog 65 #[.int .i64 n, .int .i64 lo, .int .i64 hi] w fun e w' => e = .returned (.bool (withinB n lo hi)) ∧ w = w' := by
  have hx : Hid (withinB n lo hi = (decide (lo ≤ n) && decide (n ≤ hi))) := hide rfl
  by_cases h1 : lo ≤ n
  · go_enter Try.func65, Try.ntmps65
    go_wp2_with fail
    go_ret
    exact ⟨by rw [hx.out]; simp [h1], rfl⟩
  · go_enter Try.func65, Try.ntmps65
    go_wp2_with fail
    go_ret
    exact ⟨by rw [hx.out]; simp; omega, rfl⟩
def marginB (next every space indent skip : Int) : Bool := withinB next 0 1000000 && (withinB every 1 1000 && (withinB space 0 100 && (withinB indent 0 100 && withinB skip 0 1000)))
theorem marginValid_any (on : Bool) (next every space indent skip : Int) (w : World) : Calls Try.prog 37 #[.agg #[.bool on, .int .i64 next, .int .i64 every, .int .i64 space, .int .i64 indent, .int .i64 skip]] w fun e w' => e = .returned (.bool (marginB next every space indent skip)) ∧ Below w.heap.size w w' := by
  have hx : Hid (marginB next every space indent skip = (withinB next 0 1000000 && (withinB every 1 1000 && (withinB space 0 100 && (withinB indent 0 100 && withinB skip 0 1000))))) := hide rfl
  go_enter Try.func37, Try.ntmps37
  go_wp2_with (go_at_call 65; refine (within_any _ _ _ _).mono ?_; rintro e w' ⟨rfl, rfl⟩)
  all_goals go_ret
  all_goals refine ⟨ret_bool ?_, (Below.refl _ _).alloc (Nat.le_refl _) _⟩
  all_goals rw [hx.out]
  all_goals simp_all

/-! ### stops -/
def stopsFrom : Int → List StopT → Bool
  | _, [] => true
  | last, t :: r => decide (last < t.at_) && (decide (t.at_ ≤ 1000000) && (inB [76, 82, 67] t.kind && stopsFrom t.at_ r))
def stopsB (l : List StopT) (every : Int) : Bool := stopsFrom (-1) l && (decide (l.length ≤ 40) && withinB every 0 1000000)
theorem rd_stop {w : World} {ok : Nat → Prop} {A : Option Addr} {n i : Nat} {l : List StopT} {x : StopT} (h : stopK.Rd w ok A n l) (hx : l[i]? = some x) :
    ∃ b off, A = some ⟨b, off, none⟩ ∧ ok b ∧ w.cell? ⟨b, off + i * 2, none⟩ = some (.int .i64 x.at_) ∧ w.cell? ⟨b, off + i * 2 + 1, none⟩ = some (.int .u8 (x.kind.toNat : Int)) := by
  obtain ⟨hi, rfl⟩ := List.getElem?_eq_some_iff.1 hx
  obtain ⟨b', off', e', hok, -, -⟩ := h.2 (by have := h.1; omega)
  obtain ⟨b, off, cs, e, _, hK, hc⟩ := h.at_ hi
  rw [e] at e'
  cases e'
  subst hK
  exact ⟨_, _, e, hok, hc 0 _ rfl, hc 1 _ rfl⟩
theorem tabsValid_any (A : Option Addr) (c : Nat) (l : List StopT) (every : Int) (ok : Nat → Prop) (w : World) (hr : stopK.Rd w ok A l.length l) (hn : l.length ≤ 9223372036854775807) :
    Calls Try.prog 36 #[.agg #[.slice A l.length c, .int .i64 every]] w fun e w' => e = .returned (.bool (stopsB l every)) ∧ Below w.heap.size w w' := by
  have HR := hide hr
  clear hr
  go_enter Try.func36, Try.ntmps36
  go_upto_region 1 with fail
  refine wp_one ?_
  intro W0 hb hbel hsz
  have c0 : W0.cell? ⟨w.heap.size, 0, none⟩ = some (.slice A l.length c) := by rw [blk_cell hb]; rfl
  have HB := hide hb
  have HBEL := hide hbel
  have HRW := hide (HR.out.below hbel)
  clear hb hbel hsz
  go_wp2_with fail
  go_loopw [3, 5, 9] (fun t3 _ t9 wr => ∃ (k : Nat) (last : Int), t9 = .int .i64 k ∧ t3 = .int .i64 last ∧ k ≤ l.length ∧ Hid (stopsFrom (-1) l = stopsFrom last (l.drop k)) ∧ Hid (Below W0.heap.size W0 wr)) (fun _ _ t9 _ => l.length - (intOf t9).toNat)
  case atStart => exact ⟨0, -1, rfl, rfl, Nat.zero_le _, hide rfl, hide (Below.refl _ _)⟩
  case round =>
    obtain ⟨k, last, rfl, rfl, hk, HS, HB2⟩ := hrel
    by_cases hlt : k < l.length
    · obtain ⟨x, hx⟩ : ∃ x, l[k]? = some x := ⟨_, List.getElem?_eq_getElem hlt⟩
      obtain ⟨b, off, rfl, -, z0, z1⟩ := rd_stop (HRW.out.below HB2.out) hx
      have hst : stopsFrom last (l.drop k) = (decide (last < x.at_) && (decide (x.at_ ≤ 1000000) && (inB [76, 82, 67] x.kind && stopsFrom x.at_ (l.drop (k + 1))))) := by
        obtain ⟨hlk, rfl⟩ := List.getElem?_eq_some_iff.1 hx
        rw [List.drop_eq_getElem_cons hlk]
        rfl
      obtain ⟨p, hp⟩ : ∃ p, p = Lib.indexByte [76, 82, 67] x.kind := ⟨_, rfl⟩
      have hin : inB [76, 82, 67] x.kind = decide (0 ≤ p) := by rw [hp]; rfl
      rw [hin] at hst
      have HST := hide hst
      have HP := hide hp
      clear hst hp hin hx
      have hbl : ∀ o : Obj, Below W0.heap.size W0 (wr.alloc o) := fun o => HB2.out.alloc HB2.out.size o
      have HBL := hide hbl
      clear hbl
      go_wp2_with (go_at_call 35; refine (strIndexByte _ x.kind _).mono ?_; rintro e w2 ⟨rfl, rfl⟩; rw [show (⟨#[76, 82, 67]⟩ : ByteArray).data.toList = [76, 82, 67] from rfl, ← HP.out])
      all_goals first
        | (go_ret
           refine ⟨ret_bool ?_, HBEL.out.trans ((HBL.out _).mono HBEL.out.size)⟩
           unfold stopsB
           rw [HS.out, HST.out]
           first
             | (simp_all; done)
             | (simp_all; intros; exfalso; omega))
        | skip
      go_roundw
      case rel => exact ⟨k + 1, x.at_, by go_num, rfl, by omega, hide (by
        rw [HS.out, HST.out]
        simp_all), hide (HBL.out _)⟩
      case measure => simp [intOf]; omega
    · have hkl : k = l.length := by omega
      have hs1 : stopsFrom (-1) l = true := by rw [HS.out, hkl, List.drop_length]; rfl
      have hbk := blk_below HB.out HB2.out (blk_lt HB.out)
      have d0 : wr.cell? ⟨w.heap.size, 0, none⟩ = some (.slice A l.length c) := by rw [blk_cell hbk]; rfl
      have d1 : wr.cell? ⟨w.heap.size, 1, none⟩ = some (.int .i64 every) := by rw [blk_cell hbk]; rfl
      have HS1 := hide hs1
      clear hs1 hbk hkl
      go_wp2_with fail
      all_goals go_ret
      all_goals refine ⟨ret_bool ?_, HBEL.out.trans (HB2.out.mono HBEL.out.size)⟩
      all_goals unfold stopsB withinB
      all_goals rw [HS1.out]
      all_goals first
        | (simp_all; done)
        | (simp_all; omega)
end Go.Proofs.Ytekkjieoikgpmaa
