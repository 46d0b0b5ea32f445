/- Lines that are ones: ok, IsLine, AreLines. -/
import Derived.Test.YtbchokjhbjnfcaaS17
set_option linter.unusedVariables false
set_option linter.unusedSimpArgs false
namespace Go.Proofs.Ytbchokjhbjnfcaa
open Go.RowKit
set_option maxHeartbeats 1600000
set_option maxRecDepth 1000000

/-- Is a line one? -/
def lineB (x : LineT) : Bool :=
  if x.made = true then (x.text.toList == []) && decide (-1000000 ≤ x.up) && decide (x.up ≤ 1000000) && decide (-1000000 ≤ x.down) && decide (x.down ≤ 1000000) && decide (x.boxes.length ≤ 2000)
  else fitsB x.text && (x.up == 0) && (x.down == 0) && (x.boxes.length == 0)
theorem below_a {w : World} (o : Obj) : Below w.heap.size w (w.alloc o) := (Below.refl _ _).alloc (Nat.le_refl _) _
theorem ok1_any (n : Int) (w : World) : Calls Try.prog 52 #[.int .i64 n] w fun e w' => e = .returned (.bool (decide (n < -1000000) || decide (1000000 < n))) ∧ w = w' := by
  by_cases h1 : n < -1000000
  · go_enter Try.func52, Try.ntmps52
    go_wp2_with fail
    go_ret
    exact ⟨ret_bool (by simp [h1]), rfl⟩
  · go_enter Try.func52, Try.ntmps52
    go_wp2_with fail
    go_ret
    exact ⟨ret_bool (by simp; omega), rfl⟩
theorem IsLine_any (x : LineT) (A : Option Addr) (c : Nat) (w : World) (ht : x.text.size ≤ 9223372036854775807) :
    Calls Try.prog 40 #[.agg #[.string x.text, .bool x.made, .int .i64 x.up, .int .i64 x.down, .slice A x.boxes.length c]] w fun e w' => e = .returned (.bool (lineB x)) ∧ Below w.heap.size w w' := by
  obtain ⟨t, m, u, d, bs⟩ := x
  obtain ⟨nb, hnb⟩ : ∃ nb, nb = bs.length := ⟨_, rfl⟩
  have ht' : t.size ≤ 9223372036854775807 := ht
  have HNB := hide hnb
  show Calls Try.prog 40 #[.agg #[.string t, .bool m, .int .i64 u, .int .i64 d, .slice A bs.length c]] w _
  rw [← hnb]
  clear ht hnb
  cases m with
  | false =>
    cases hf : fitsB t with
    | false =>
      have HF := hide hf
      go_enter Try.func40, Try.ntmps40
      go_wp2_with (go_at_call 8; refine (IsText_any _ _ ht').mono ?_; rw [HF.out]; rintro e w' ⟨rfl, rfl⟩)
      go_ret
      exact ⟨ret_bool (by unfold lineB; simp [HF.out]), below_a _⟩
    | true =>
      have HF := hide hf
      clear hf
      by_cases h1 : u = 0
      · subst h1
        by_cases h2 : d = 0
        · subst h2
          go_enter Try.func40, Try.ntmps40
          go_wp2_with (go_at_call 8; refine (IsText_any _ _ ht').mono ?_; rw [HF.out]; rintro e w' ⟨rfl, rfl⟩)
          go_ret
          exact ⟨ret_bool (by unfold lineB; rw [← HNB.out]; simp [HF.out]; rw [Bool.eq_iff_iff]; simp; try omega), below_a _⟩
        · have h2b : (d == 0) = false := beq_eq_false_iff_ne.2 h2
          clear h2
          go_enter Try.func40, Try.ntmps40
          go_wp2_with (go_at_call 8; refine (IsText_any _ _ ht').mono ?_; rw [HF.out]; rintro e w' ⟨rfl, rfl⟩)
          go_ret
          exact ⟨ret_bool (by unfold lineB; simp [HF.out, h2b]), below_a _⟩
      · have h1b : (u == 0) = false := beq_eq_false_iff_ne.2 h1
        clear h1
        go_enter Try.func40, Try.ntmps40
        go_wp2_with (go_at_call 8; refine (IsText_any _ _ ht').mono ?_; rw [HF.out]; rintro e w' ⟨rfl, rfl⟩)
        go_ret
        exact ⟨ret_bool (by unfold lineB; simp [HF.out, h1b]), below_a _⟩
  | true =>
    cases ht0 : (t.toList == []) with
    | false =>
      go_enter Try.func40, Try.ntmps40
      go_wp2_with fail
      all_goals go_ret
      all_goals exact ⟨ret_bool (by unfold lineB; simp_all), below_a _⟩
    | true =>
      go_enter Try.func40, Try.ntmps40
      go_wp2_with fail
      all_goals go_ret
      all_goals exact ⟨ret_bool (by unfold lineB; rw [← HNB.out]; simp_all; try omega), below_a _⟩
end Go.Proofs.Ytbchokjhbjnfcaa
