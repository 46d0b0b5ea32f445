/- The store: Macro. -/
import Derived.Test.YtbchokjhbjnfcaaS20
set_option linter.unusedVariables false
set_option linter.unusedSimpArgs false
namespace Go.Proofs.Ytbchokjhbjnfcaa
open Go.RowKit
set_option maxHeartbeats 1600000
set_option maxRecDepth 1000000

theorem Contains_Macro (A : Option Addr) (n c : Nat) (L : List LineT) (ok : Nat → Prop) (w : World) (hr : lineK.Rd w ok A n L) (hn : n ≤ 9223372036854775807) :
    Calls Try.prog 37 #[.slice A n c, .func (.func 38) #[] #[]] w fun e w' => e = .returned (.bool !(L.all lineB)) ∧ Below w.heap.size w w' := by
  go_enter Try.func37, Try.ntmps37
  go_wp2_with (go_at_call 51; refine (IndexFunc_bad 38 (fun _ _ => rfl) (fun x A c W h => bad_Macro x A c W h) A n c L ok _ hr hn).mono ?_; rintro e w1 ⟨r, rfl, h1, q⟩; have H1 := hide h1; have Q := hide q; clear h1 q)
  go_ret
  exact ⟨ret_bool H1.out, Q.out⟩
theorem Contains_Add (A : Option Addr) (n c : Nat) (L : List LineT) (ok : Nat → Prop) (w : World) (hr : lineK.Rd w ok A n L) (hn : n ≤ 9223372036854775807) :
    Calls Try.prog 37 #[.slice A n c, .func (.func 41) #[] #[]] w fun e w' => e = .returned (.bool !(L.all lineB)) ∧ Below w.heap.size w w' := by
  go_enter Try.func37, Try.ntmps37
  go_wp2_with (go_at_call 51; refine (IndexFunc_bad 41 (fun _ _ => rfl) (fun x A c W h => bad_Add x A c W h) A n c L ok _ hr hn).mono ?_; rintro e w1 ⟨r, rfl, h1, q⟩; have H1 := hide h1; have Q := hide q; clear h1 q)
  go_ret
  exact ⟨ret_bool H1.out, Q.out⟩
section
variable {base : Nat} {w : World} {g b : Nat} {F : ByteArray → Option Nat} {sz : Nat} {E : Nat → Option EntS}
/-- A macro at a name that is new. -/
theorem Macro_new (h : Sto base w g b F sz E) (s : ByteArray) (hs : s.size ≤ 9223372036854775807) (A : Option Addr) (n c : Nat) (L : List LineT) (ok : Nat → Prop) (hr : lineK.Rd w ok A n L) (hn : n ≤ 2000) (hfair : Fair L) (hall : L.all lineB = true) (hok : ∀ k, ok k → k ≠ b)
    (hnm : nameB s = true) (hf : F s = none) (hsz : sz < 500) (hbase : base ≤ w.heap.size) :
    Calls Try.prog 15 #[.pointer (some ⟨g, 0, none⟩), .string s, .slice A n c] w fun e w' => e = .returned (.int .i64 0) ∧ ∃ eb x, x.kind = 2 ∧ x.L = L ∧ Sto base w' g b (upd F s (some eb)) (sz + 1) (updE E eb x) ∧ Kept (fun k => k = b) w w' := by
  have H := hide h
  have c0 := h.c0
  have HR := hide hr
  have HFA := hide hfair
  have HAL := hide hall
  have HOK := hide hok
  have HNM := hide hnm
  have HHF := hide hf
  clear h hr hfair hall hok hnm hf
  go_enter Try.func15, Try.ntmps15
  go_wp2_with (first
    | (go_at_call 29; refine (gone_some _ _ _ c0).mono ?_; rintro e w' ⟨rfl, rfl⟩)
    | (go_at_call 37; refine (Contains_Macro A n c L ok _ HR.out (by omega)).mono ?_; rw [HAL.out]; rintro e w1 ⟨rfl, q⟩; have H1 := hide (H.out.below q); have Q1 := hide q; clear q)
    | (go_at_call 31; refine (named_any _ _ hs).mono ?_; rw [HNM.out]; rintro e w2 ⟨rfl, q⟩; have H2 := hide (H1.out.below q); have Q2 := hide (below_self Q1.out q); clear q)
    | (go_at_call 32
       refine (put_new H2.out s hs 2 A n c L HR.out.1 (own_ok (HR.out.below Q2.out) (by omega) HFA.out (fun k hk _ e => HOK.out k hk e)) (.inr rfl) (fun h => absurd h (by omega)) hn HHF.out hsz (Nat.le_trans hbase Q2.out.size)).mono ?_
       rintro e w3 ⟨rfl, x, hx1, hx2, hst, hkp⟩
       have HX1 := hide hx1
       have HX2 := hide hx2
       have HST := hide hst
       have HKP := hide hkp
       clear hx1 hx2 hst hkp))
  go_ret
  exact ⟨rfl, _, x, HX1.out, HX2.out, HST.out, (Kept.of_below (S := fun k => k = b) Q2.out).trans HKP.out (fun _ _ h => h) (fun _ _ h => h)⟩
end
end Go.Proofs.Ytbchokjhbjnfcaa
