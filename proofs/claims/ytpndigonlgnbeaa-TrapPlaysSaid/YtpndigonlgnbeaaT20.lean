/- No table: a table that is nil, or was not made: what its functions answer. -/
import Derived.Test.YtpndigonlgnbeaaT17
import Derived.OwnWalk
set_option linter.unusedVariables false
set_option linter.unusedSimpArgs false
namespace Go.Proofs.Ytpndigonlgnbeaa
open Go.RowKit
set_option maxHeartbeats 1600000
set_option maxRecDepth 1000000

/-- There is no table: none says so, whenever it is asked. -/
def NoTab (w : World) (v : Value) : Prop := ∀ w', Below w.heap.size w w' → Calls Try.prog 23 #[v] w' fun e w'' => e = .returned (.bool true) ∧ w' = w''
theorem NoTab.below {w w' : World} {v : Value} (h : NoTab w v) (hb : Below w.heap.size w w') : NoTab w' v := fun w'' h2 => h w'' (below_self hb h2)
theorem NoTab.nil (w : World) : NoTab w (.pointer none) := fun w' _ => none_nil w'
theorem NoTab.made {w : World} {g : Nat} (h : w.cell? ⟨g, 1, none⟩ = some (.bool false)) : NoTab w (.pointer (some ⟨g, 0, none⟩)) := fun w' hb =>
  none_some w' g false ((cell_same (hb.block g (cell_lt h)) 1).trans h)
theorem below_one {w : World} (o : Obj) : Below w.heap.size w (w.alloc o) := (Below.refl _ _).alloc (Nat.le_refl _) _
theorem below_two {w : World} (o o' : Obj) : Below w.heap.size w ((w.alloc o).alloc o') := below_self (below_one o) (below_one o')

theorem Plant_no {v : Value} (a : Int) (s : ByteArray) (w : World) (h : NoTab w v) : Calls Try.prog 30 #[v, .int .i64 a, .string s] w fun e w' => e = .returned (.int .i64 1) ∧ Below w.heap.size w w' := by
  have H := hide h
  clear h
  go_enter Try.func30, Try.ntmps30
  go_wp2_with (go_at_call 23; refine (H.out _ (by first | exact Below.refl _ _ | exact below_one _ | exact below_two _ _)).mono ?_; rintro e w' ⟨rfl, rfl⟩)
  first | go_ret | go_ret2
  exact ⟨rfl, (by first | exact Below.refl _ _ | exact below_one _ | exact below_two _ _)⟩

theorem Clear_no {v : Value} (a : Int) (w : World) (h : NoTab w v) : Calls Try.prog 31 #[v, .int .i64 a] w fun e w' => e = .returned (.int .i64 1) ∧ Below w.heap.size w w' := by
  have H := hide h
  clear h
  go_enter Try.func31, Try.ntmps31
  go_wp2_with (go_at_call 23; refine (H.out _ (by first | exact Below.refl _ _ | exact below_one _ | exact below_two _ _)).mono ?_; rintro e w' ⟨rfl, rfl⟩)
  first | go_ret | go_ret2
  exact ⟨rfl, (by first | exact Below.refl _ _ | exact below_one _ | exact below_two _ _)⟩

theorem Move_no {v : Value} (s : ByteArray) (a : Int) (w : World) (h : NoTab w v) : Calls Try.prog 32 #[v, .string s, .int .i64 a] w fun e w' => e = .returned (.int .i64 1) ∧ Below w.heap.size w w' := by
  have H := hide h
  clear h
  go_enter Try.func32, Try.ntmps32
  go_wp2_with (go_at_call 23; refine (H.out _ (by first | exact Below.refl _ _ | exact below_one _ | exact below_two _ _)).mono ?_; rintro e w' ⟨rfl, rfl⟩)
  first | go_ret | go_ret2
  exact ⟨rfl, (by first | exact Below.refl _ _ | exact below_one _ | exact below_two _ _)⟩

theorem Drop_no {v : Value} (s : ByteArray) (w : World) (h : NoTab w v) : Calls Try.prog 33 #[v, .string s] w fun e w' => e = .returned (.int .i64 1) ∧ Below w.heap.size w w' := by
  have H := hide h
  clear h
  go_enter Try.func33, Try.ntmps33
  go_wp2_with (go_at_call 23; refine (H.out _ (by first | exact Below.refl _ _ | exact below_one _ | exact below_two _ _)).mono ?_; rintro e w' ⟨rfl, rfl⟩)
  first | go_ret | go_ret2
  exact ⟨rfl, (by first | exact Below.refl _ _ | exact below_one _ | exact below_two _ _)⟩

theorem All_no {v : Value}  (w : World) (h : NoTab w v) : Calls Try.prog 22 #[v] w fun e w' => e = .returned (.slice none 0 0) ∧ Below w.heap.size w w' := by
  have H := hide h
  clear h
  go_enter Try.func22, Try.ntmps22
  go_wp2_with (go_at_call 23; refine (H.out _ (by first | exact Below.refl _ _ | exact below_one _ | exact below_two _ _)).mono ?_; rintro e w' ⟨rfl, rfl⟩)
  first | go_ret | go_ret2
  exact ⟨rfl, (by first | exact Below.refl _ _ | exact below_one _ | exact below_two _ _)⟩

theorem Copy_no {v : Value}  (w : World) (h : NoTab w v) : Calls Try.prog 20 #[v] w fun e w' => e = .returned (.pointer none) ∧ Below w.heap.size w w' := by
  have H := hide h
  clear h
  go_enter Try.func20, Try.ntmps20
  go_wp2_with (go_at_call 23; refine (H.out _ (by first | exact Below.refl _ _ | exact below_one _ | exact below_two _ _)).mono ?_; rintro e w' ⟨rfl, rfl⟩)
  first | go_ret | go_ret2
  exact ⟨rfl, (by first | exact Below.refl _ _ | exact below_one _ | exact below_two _ _)⟩

theorem Passed_no {v : Value} (n f t : Int) (w : World) (h : NoTab w v) : Calls Try.prog 9 #[v, .int .i64 n, .int .i64 f, .int .i64 t] w fun e w' => e = .returned (.tuple #[.slice none 0 0, .int .i64 1]) ∧ Below w.heap.size w w' := by
  have H := hide h
  clear h
  go_enter Try.func9, Try.ntmps9
  go_wp2_with (go_at_call 23; refine (H.out _ (by first | exact Below.refl _ _ | exact below_one _ | exact below_two _ _)).mono ?_; rintro e w' ⟨rfl, rfl⟩)
  first | go_ret | go_ret2
  exact ⟨rfl, (by first | exact Below.refl _ _ | exact below_one _ | exact below_two _ _)⟩

theorem Distance_no {v : Value} (n f : Int) (w : World) (h : NoTab w v) : Calls Try.prog 18 #[v, .int .i64 n, .int .i64 f] w fun e w' => e = .returned (.int .i64 0) ∧ Below w.heap.size w w' := by
  have H := hide h
  clear h
  go_enter Try.func18, Try.ntmps18
  go_wp2_with (go_at_call 23; refine (H.out _ (by first | exact Below.refl _ _ | exact below_one _ | exact below_two _ _)).mono ?_; rintro e w' ⟨rfl, rfl⟩)
  first | go_ret | go_ret2
  exact ⟨rfl, (by first | exact Below.refl _ _ | exact below_one _ | exact below_two _ _)⟩

theorem On_no {v : Value} (n : Int) (w : World) (h : NoTab w v) : Calls Try.prog 10 #[v, .int .i64 n] w fun e w' => e = .returned (.slice none 0 0) ∧ Below w.heap.size w w' := by
  have H := hide h
  clear h
  go_enter Try.func10, Try.ntmps10
  go_wp2_with (go_at_call 22; refine (All_no _ H.out).mono ?_; rintro e w1 ⟨rfl, q⟩; have Q := hide q; clear q)
  go_loopw [5, 13] (fun t5 t13 wr => t5 = .slice none 0 0 ∧ t13 = .int .i64 0 ∧ w1 = wr) (fun _ _ _ => 0)
  case atStart => exact ⟨rfl, rfl, rfl⟩
  case round =>
    obtain ⟨rfl, rfl, rfl⟩ := hrel
    go_wp2_with (go_at_call 27; refine (SortStable_trap 0 (.slice none 0 0) [] _ (Kind.Own.nil _ _ _ _ _) (by simp)).mono ?_; rintro e w2 ⟨rfl, q1, q2⟩; have P2 := hide q2; clear q1 q2)
    go_ret
    exact ⟨rfl, Q.out.trans (P2.out.below (B := w.heap.size) Q.out.size (fun i h => by cases h))⟩

theorem First_no {v : Value} (n f t : Int) (w : World) (h : NoTab w v) : Calls Try.prog 17 #[v, .int .i64 n, .int .i64 f, .int .i64 t] w fun e w' => e = .returned (.tuple #[.int .i64 0, .slice none 0 0, .int .i64 1]) ∧ Below w.heap.size w w' := by
  have H := hide h
  clear h
  go_enter Try.func17, Try.ntmps17
  go_wp2_with (go_at_call 9; refine (Passed_no _ _ _ _ H.out).mono ?_; rintro e w1 ⟨rfl, q⟩; have Q := hide q; clear q)
  go_ret3
  exact ⟨rfl, Q.out⟩

theorem do_no {v : Value} (x : DeedT) (w : World) (h : NoTab w v) (h0 : 0 ≤ x.k) (h3 : x.k ≤ 3) : Calls Try.prog 14 #[v, .agg #[.int .i64 x.k, .int .i64 x.a, .string x.s]] w fun e w' => e = .returned (.int .i64 1) ∧ Below w.heap.size w w' := by
  obtain ⟨k, a, s⟩ := x
  have hal : Below w.heap.size w (w.alloc (.cells #[.int .i64 k, .int .i64 a, .string s] 43)) := below_one _
  have HAL := hide hal
  have HN := hide (h.below hal)
  clear hal h
  show Calls Try.prog 14 #[v, .agg #[.int .i64 k, .int .i64 a, .string s]] w _
  have hk : k = 0 ∨ k = 1 ∨ k = 2 ∨ k = 3 := by
    have h0' : 0 ≤ k := h0
    have h3' : k ≤ 3 := h3
    omega
  clear h0 h3
  rcases hk with rfl | rfl | rfl | rfl
  · go_enter Try.func14, Try.ntmps14
    go_wp2_with (go_at_call 30; refine (Plant_no a s _ HN.out).mono ?_; rintro e w2 ⟨rfl, q⟩; have Q := hide q; clear q)
    go_ret
    exact ⟨rfl, below_self HAL.out Q.out⟩
  · go_enter Try.func14, Try.ntmps14
    go_wp2_with (go_at_call 31; refine (Clear_no a _ HN.out).mono ?_; rintro e w2 ⟨rfl, q⟩; have Q := hide q; clear q)
    go_ret
    exact ⟨rfl, below_self HAL.out Q.out⟩
  · go_enter Try.func14, Try.ntmps14
    go_wp2_with (go_at_call 32; refine (Move_no s a _ HN.out).mono ?_; rintro e w2 ⟨rfl, q⟩; have Q := hide q; clear q)
    go_ret
    exact ⟨rfl, below_self HAL.out Q.out⟩
  · go_enter Try.func14, Try.ntmps14
    go_wp2_with (go_at_call 33; refine (Drop_no s _ HN.out).mono ?_; rintro e w2 ⟨rfl, q⟩; have Q := hide q; clear q)
    go_ret
    exact ⟨rfl, below_self HAL.out Q.out⟩
end Go.Proofs.Ytpndigonlgnbeaa
