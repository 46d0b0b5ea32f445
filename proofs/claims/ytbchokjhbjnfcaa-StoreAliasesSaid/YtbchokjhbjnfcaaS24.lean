/- The store: Macro at a name that is there. -/
import Derived.Test.YtbchokjhbjnfcaaS22
set_option linter.unusedVariables false
set_option linter.unusedSimpArgs false
namespace Go.Proofs.Ytbchokjhbjnfcaa
open Go.RowKit
set_option maxHeartbeats 1600000
set_option maxRecDepth 1000000
section
variable {base : Nat} {w : World} {g b : Nat} {F : ByteArray → Option Nat} {sz : Nat} {E : Nat → Option EntS}
/-- A macro at a name that is there. -/
theorem Macro_old (h : Sto base w g b F sz E) (s : ByteArray) (hs : s.size ≤ 9223372036854775807) (A : Option Addr) (n c : Nat) (L : List LineT) (ok : Nat → Prop) (hr : lineK.Rd w ok A n L) (hn : n ≤ 2000) (hfair : Fair L) (hall : L.all lineB = true) (hok : ∀ k, ok k → k ≠ b)
    (hnm : nameB s = true) {e0 : Nat} {x0 : EntS} (hf : F s = some e0) (he : E e0 = some x0) (hsz : sz ≤ 1000000) (hbase : base ≤ w.heap.size) :
    Calls Try.prog 15 #[.pointer (some ⟨g, 0, none⟩), .string s, .slice A n c] w fun e w' => e = .returned (.int .i64 0) ∧ ∃ x, x.kind = 2 ∧ x.L = L ∧ Sto base w' g b F sz (updE E e0 x) ∧ Kept (fun k => k = e0) w w' := by
  have H := hide h
  have c0 := h.c0
  have HR := hide hr
  have HFA := hide hfair
  have HAL := hide hall
  have HOK := hide hok
  have HNM := hide hnm
  have HHF := hide hf
  have HE := hide he
  clear h hr hfair hall hok hnm hf he
  go_enter Try.func15, Try.ntmps15
  go_wp2_with (first
    | (go_at_call 29; refine (gone_some _ _ _ c0).mono ?_; rintro e w' ⟨rfl, rfl⟩)
    | (go_at_call 37; refine (Contains_Macro A n c L ok _ HR.out (by omega)).mono ?_; rw [HAL.out]; rintro e w1 ⟨rfl, q⟩; have H1 := hide (H.out.below q); have Q1 := hide q; clear q)
    | (go_at_call 31; refine (named_any _ _ hs).mono ?_; rw [HNM.out]; rintro e w2 ⟨rfl, q⟩; have H2 := hide (H1.out.below q); have Q2 := hide (below_self Q1.out q); clear q)
    | (go_at_call 32
       refine (put_old H2.out s hs 2 A n c L HR.out.1 (own_ok (HR.out.below Q2.out) (by omega) HFA.out (fun k hk _ e => HOK.out k hk e)) (.inr rfl) (fun h => absurd h (by omega)) hn HHF.out HE.out hsz (Nat.le_trans hbase Q2.out.size)).mono ?_
       rintro e w3 ⟨rfl, x, hx1, hx2, hst, hkp⟩
       have HX1 := hide hx1
       have HX2 := hide hx2
       have HST := hide hst
       have HKP := hide hkp
       clear hx1 hx2 hst hkp))
  go_ret
  exact ⟨rfl, x, HX1.out, HX2.out, HST.out, (Kept.of_below (S := fun k => k = e0) Q2.out).trans HKP.out (fun _ _ h => h) (fun _ _ h => h)⟩
end
/-- Grow of nothing, by nothing. -/
theorem Grow_zero (w : World) : Calls Try.prog 53 #[.slice none 0 0, .int .i64 0] w fun e w' => e = .returned (.slice none 0 0) ∧ w = w' := by
  go_enter Try.func53, Try.ntmps53
  go_wp2_with fail
  go_ret
  exact ⟨rfl, rfl⟩
end Go.Proofs.Ytbchokjhbjnfcaa
