/- env.sameBox; slices.EqualFunc over boxes; env.Same. -/
import Derived.Test.YtekkjieoikgpmaaE21
set_option linter.unusedVariables false
set_option linter.unusedSimpArgs false
namespace Go.Proofs.Ytekkjieoikgpmaa
open Go.RowKit
set_option maxHeartbeats 3200000
set_option maxRecDepth 1000000

def boxEq (a b : BoxT) : Bool := (a.f0 == b.f0) && ((a.f1 == b.f1) && ((a.f2 == b.f2) && ((a.f3 == b.f3) && ((a.f4.toList == b.f4.toList) && ((a.f5.toList == b.f5.toList) && all2 (· == ·) a.f6 b.f6)))))
theorem sameBox_any (a b : BoxT) (A : Option Addr) (c : Nat) (B : Option Addr) (d : Nat) (w : World) (ha : Kind.int.Rd w (fun _ => True) A a.f6.length a.f6) (hb : Kind.int.Rd w (fun _ => True) B b.f6.length b.f6) (hn : a.f6.length ≤ 9223372036854775807) :
    Calls Try.prog 50 #[.agg (a.cells A c).toArray, .agg (b.cells B d).toArray] w fun e w' => e = .returned (.bool (boxEq a b)) ∧ Below w.heap.size w w' := by
  obtain ⟨a0, a1, a2, a3, a4, a5, a6⟩ := a
  obtain ⟨b0, b1, b2, b3, b4, b5, b6⟩ := b
  have HA := hide (show Kind.int.Rd w (fun _ => True) A a6.length a6 from ha)
  have HB := hide (show Kind.int.Rd w (fun _ => True) B b6.length b6 from hb)
  have HN := hide (show a6.length ≤ 9223372036854775807 from hn)
  show Calls Try.prog 50 #[.agg #[.int .i64 a0, .int .i64 a1, .int .i64 a2, .int .i64 a3, .string a4, .string a5, .slice A a6.length c], .agg #[.int .i64 b0, .int .i64 b1, .int .i64 b2, .int .i64 b3, .string b4, .string b5, .slice B b6.length d]] w fun e w' => e = .returned (.bool ((a0 == b0) && ((a1 == b1) && ((a2 == b2) && ((a3 == b3) && ((a4.toList == b4.toList) && ((a5.toList == b5.toList) && all2 (· == ·) a6 b6))))))) ∧ Below w.heap.size w w'
  have hal : Below w.heap.size w ((w.alloc (.cells #[.int .i64 a0, .int .i64 a1, .int .i64 a2, .int .i64 a3, .string a4, .string a5, .slice A a6.length c] 86)).alloc (.cells #[.int .i64 b0, .int .i64 b1, .int .i64 b2, .int .i64 b3, .string b4, .string b5, .slice B b6.length d] 86)) := ((Below.refl _ _).alloc (Nat.le_refl _) _).alloc (by simp) _
  have HAL := hide hal
  clear ha hb hn hal
  cases h0 : (a0 == b0) with
  | false =>
    go_enter Try.func50, Try.ntmps50
    go_wp2_with fail
    go_ret
    exact ⟨ret_bool (by simp), HAL.out⟩
  | true =>
    cases h1 : (a1 == b1) with
    | false =>
      go_enter Try.func50, Try.ntmps50
      go_wp2_with fail
      go_ret
      exact ⟨ret_bool (by simp), HAL.out⟩
    | true =>
      cases h2 : (a2 == b2) with
      | false =>
        go_enter Try.func50, Try.ntmps50
        go_wp2_with fail
        go_ret
        exact ⟨ret_bool (by simp), HAL.out⟩
      | true =>
        cases h3 : (a3 == b3) with
        | false =>
          go_enter Try.func50, Try.ntmps50
          go_wp2_with fail
          go_ret
          exact ⟨ret_bool (by simp), HAL.out⟩
        | true =>
          cases h4 : (a4.toList == b4.toList) with
          | false =>
            go_enter Try.func50, Try.ntmps50
            go_wp2_with fail
            go_ret
            exact ⟨ret_bool (by simp), HAL.out⟩
          | true =>
            cases h5 : (a5.toList == b5.toList) with
            | false =>
              go_enter Try.func50, Try.ntmps50
              go_wp2_with fail
              go_ret
              exact ⟨ret_bool (by simp), HAL.out⟩
            | true =>
              go_enter Try.func50, Try.ntmps50
              go_wp2_with (go_at_call 77; refine (Equal_int A a6.length c a6 B b6.length d b6 (fun _ => True) _ (HA.out.below HAL.out) (HB.out.below HAL.out) HN.out).mono ?_; rintro e w2 ⟨rfl, q⟩; have Q := hide q; clear q)
              go_ret
              exact ⟨ret_bool (by simp), HAL.out.trans (Q.out.mono HAL.out.size)⟩
theorem EqualFunc_box (A : Option Addr) (n c : Nat) (l : List BoxT) (B : Option Addr) (m d : Nat) (r : List BoxT) (ok : Nat → Prop) (w : World) (hl : boxK.Rd w ok A n l) (hr : boxK.Rd w ok B m r) (hn : n ≤ 9223372036854775807) (hlen : ∀ x ∈ l, x.f6.length ≤ 9223372036854775807) :
    Calls Try.prog 49 #[.slice A n c, .slice B m d, .func (.func 50) #[] #[]] w fun e w' => e = .returned (.bool (all2 boxEq l r)) ∧ Below w.heap.size w w' := by
  have eg : ∀ args w, (callFunc 50 args).run Try.prog w = .ok (.enter 50 args) w := fun _ _ => rfl
  have HL := hide hl
  have HR := hide hr
  have hln : l.length = n := hl.1
  have hrn : r.length = m := hr.1
  have HLN := hide hln
  have HRN := hide hrn
  have HLEN := hide hlen
  clear hl hr hln hrn hlen
  by_cases hnm : n = m
  · subst hnm
    go_enter Try.func49, Try.ntmps49
    go_wp2_with fail
    go_loopw [7, 8, 9, 17] (fun _ _ _ t17 wr => ∃ k : Nat, t17 = .int .i64 k ∧ k ≤ n ∧ Hid (all2 boxEq (l.take k) (r.take k) = true) ∧ Hid (Below w.heap.size w wr)) (fun _ _ _ t17 _ => n - (intOf t17).toNat)
    case atStart => exact ⟨0, rfl, Nat.zero_le _, hide (by simp [all2]), hide (Below.refl _ _)⟩
    case round =>
      obtain ⟨k, rfl, hk, HG, HB⟩ := hrel
      by_cases hlt : k < n
      · obtain ⟨x, hx⟩ : ∃ x, l[k]? = some x := ⟨_, List.getElem?_eq_getElem (by have := HLN.out; omega)⟩
        obtain ⟨y, hy⟩ : ∃ y, r[k]? = some y := ⟨_, List.getElem?_eq_getElem (by have := HRN.out; omega)⟩
        obtain ⟨b1, o1, A5, c5, rfl, hr5, -, -, z0, z1, z2, z3, z4, z5, z6⟩ := box_cells (HL.out.below HB.out) hx
        obtain ⟨b2, o2, A6, c6, rfl, hr6, -, -, y0, y1, y2, y3, y4, y5, y6⟩ := box_cells (HR.out.below HB.out) hy
        have HR5 := hide (hr5.weaken (ok' := fun _ => True) (fun _ _ => trivial))
        have HR6 := hide (hr6.weaken (ok' := fun _ => True) (fun _ _ => trivial))
        have HL5 := hide (HLEN.out x (List.mem_of_getElem? hx))
        have hts := all2_take boxEq l r k x y hx hy
        rw [HG.out, Bool.true_and] at hts
        have hno := all2_no boxEq l r k x y hx hy
        have HTS := hide hts
        have HNO := hide hno
        have hal1 : Below wr.heap.size wr (wr.alloc (.cells (x.cells A5 c5).toArray 86)) := (Below.refl _ _).alloc (Nat.le_refl _) _
        have q0 := cell_stays hal1 y0
        have q1 := cell_stays hal1 y1
        have q2 := cell_stays hal1 y2
        have q3 := cell_stays hal1 y3
        have q4 := cell_stays hal1 y4
        have q5 := cell_stays hal1 y5
        have q6 := cell_stays hal1 y6
        have hal2 : Below wr.heap.size wr ((wr.alloc (.cells (x.cells A5 c5).toArray 86)).alloc (.cells (y.cells A6 c6).toArray 86)) := hal1.alloc (by simp) _
        have HAL2 := hide hal2
        clear hx hy hts hno hr5 hr6 hal1 hal2 y0 y1 y2 y3 y4 y5 y6
        simp only [BoxT.cells] at q0 q1 q2 q3 q4 q5 q6
        cases hb : boxEq x y with
        | false =>
          have HF := hide hb
          clear hb
          go_wp2_with (go_at_fn 50; refine (sameBox_any x y A5 c5 A6 c6 _ (HR5.out.below HAL2.out) (HR6.out.below HAL2.out) HL5.out).mono ?_; rw [HF.out]; rintro e w2 ⟨rfl, q⟩; have Q := hide q; clear q)
          go_ret
          exact ⟨ret_bool (HNO.out HF.out).symm, HB.out.trans ((HAL2.out.trans (Q.out.mono HAL2.out.size)).mono HB.out.size)⟩
        | true =>
          have HF := hide hb
          clear hb
          go_wp2_with (go_at_fn 50; refine (sameBox_any x y A5 c5 A6 c6 _ (HR5.out.below HAL2.out) (HR6.out.below HAL2.out) HL5.out).mono ?_; rw [HF.out]; rintro e w2 ⟨rfl, q⟩; have Q := hide q; clear q)
          go_roundw
          case rel => exact ⟨k + 1, by go_num, by omega, hide (by rw [HTS.out, HF.out]), hide (HB.out.trans ((HAL2.out.trans (Q.out.mono HAL2.out.size)).mono HB.out.size))⟩
          case measure => simp [intOf]; omega
      · have hg := HG.out
        rw [List.take_of_length_le (by have := HLN.out; omega), List.take_of_length_le (by have := HRN.out; omega)] at hg
        have HA := hide hg
        clear hg
        go_wp2_with fail
        go_ret
        exact ⟨ret_bool HA.out.symm, HB.out⟩
  · have hno := all2_len boxEq l r (by have := HLN.out; have := HRN.out; omega)
    have HNO := hide hno
    have hne2 : ((n : Int) == (m : Int)) = false := by simp; omega
    clear hno
    go_enter Try.func49, Try.ntmps49
    go_wp2_with fail
    go_ret
    exact ⟨ret_bool HNO.out.symm, Below.refl _ _⟩
end Go.Proofs.Ytekkjieoikgpmaa
