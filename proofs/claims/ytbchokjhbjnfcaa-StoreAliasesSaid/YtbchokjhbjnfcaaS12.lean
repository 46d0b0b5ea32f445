/- No store: a store that is nil, or was not made: what its functions answer. -/
import Derived.Test.YtbchokjhbjnfcaaS8
set_option linter.unusedVariables false
set_option linter.unusedSimpArgs false
namespace Go.Proofs.Ytbchokjhbjnfcaa
open Go.RowKit
set_option maxHeartbeats 1600000
set_option maxRecDepth 1000000

/-- There is no store: gone says so, whenever it is asked. -/
def NoSto (w : World) (v : Value) : Prop := ∀ w', Below w.heap.size w w' → Calls Try.prog 29 #[v] w' fun e w'' => e = .returned (.bool true) ∧ w' = w''
theorem NoSto.below {w w' : World} {v : Value} (h : NoSto w v) (hb : Below w.heap.size w w') : NoSto w' v := fun w'' h2 => h w'' (below_self hb h2)
theorem NoSto.nil (w : World) : NoSto w (.pointer none) := fun w' _ => by
  go_enter Try.func29, Try.ntmps29
  go_wp2
  go_ret
  exact ⟨rfl, rfl⟩
theorem gone_none (w : World) (g : Nat) (h : w.cell? ⟨g, 0, none⟩ = some (.map none)) : Calls Try.prog 29 #[.pointer (some ⟨g, 0, none⟩)] w fun e w' => e = .returned (.bool true) ∧ w = w' := by
  have heq := fun W => eql_map W none
  go_enter Try.func29, Try.ntmps29
  go_wp2
  go_ret
  exact ⟨rfl, rfl⟩
theorem NoSto.made {w : World} {g : Nat} (h : w.cell? ⟨g, 0, none⟩ = some (.map none)) : NoSto w (.pointer (some ⟨g, 0, none⟩)) := fun w' hb =>
  gone_none w' g ((cell_same (hb.block g (cell_lt h)) 0).trans h)
theorem below_one {w : World} (o : Obj) : Below w.heap.size w (w.alloc o) := (Below.refl _ _).alloc (Nat.le_refl _) _
theorem below_two {w : World} (o o' : Obj) : Below w.heap.size w ((w.alloc o).alloc o') := below_self (below_one o) (below_one o')

theorem Kind_no {v : Value} (s : ByteArray) (w : World) (h : NoSto w v) : Calls Try.prog 25 #[v, .string s] w fun e w' => e = .returned (.int .i64 0) ∧ Below w.heap.size w w' := by
  have H := hide h
  clear h
  go_enter Try.func25, Try.ntmps25
  go_wp2_with (go_at_call 29; refine (H.out _ (by first | exact Below.refl _ _ | exact below_one _ | exact below_two _ _)).mono ?_; rintro e w' ⟨rfl, rfl⟩)
  go_ret
  exact ⟨rfl, (by first | exact Below.refl _ _ | exact below_one _ | exact below_two _ _)⟩

theorem Names_no {v : Value}  (w : World) (h : NoSto w v) : Calls Try.prog 26 #[v] w fun e w' => e = .returned (.slice none 0 0) ∧ Below w.heap.size w w' := by
  have H := hide h
  clear h
  go_enter Try.func26, Try.ntmps26
  go_wp2_with (go_at_call 29; refine (H.out _ (by first | exact Below.refl _ _ | exact below_one _ | exact below_two _ _)).mono ?_; rintro e w' ⟨rfl, rfl⟩)
  go_ret
  exact ⟨rfl, (by first | exact Below.refl _ _ | exact below_one _ | exact below_two _ _)⟩

theorem Copy_no {v : Value}  (w : World) (h : NoSto w v) : Calls Try.prog 27 #[v] w fun e w' => e = .returned (.pointer none) ∧ Below w.heap.size w w' := by
  have H := hide h
  clear h
  go_enter Try.func27, Try.ntmps27
  go_wp2_with (go_at_call 29; refine (H.out _ (by first | exact Below.refl _ _ | exact below_one _ | exact below_two _ _)).mono ?_; rintro e w' ⟨rfl, rfl⟩)
  go_ret
  exact ⟨rfl, (by first | exact Below.refl _ _ | exact below_one _ | exact below_two _ _)⟩

theorem Remove_no {v : Value} (s : ByteArray) (w : World) (h : NoSto w v) : Calls Try.prog 28 #[v, .string s] w fun e w' => e = .returned (.int .i64 1) ∧ Below w.heap.size w w' := by
  have H := hide h
  clear h
  go_enter Try.func28, Try.ntmps28
  go_wp2_with (go_at_call 29; refine (H.out _ (by first | exact Below.refl _ _ | exact below_one _ | exact below_two _ _)).mono ?_; rintro e w' ⟨rfl, rfl⟩)
  go_ret
  exact ⟨rfl, (by first | exact Below.refl _ _ | exact below_one _ | exact below_two _ _)⟩

theorem find_no {v : Value} (s : ByteArray) (w : World) (h : NoSto w v) : Calls Try.prog 33 #[v, .string s] w fun e w' => e = .returned (.tuple #[.pointer none, .int .i64 1]) ∧ Below w.heap.size w w' := by
  have H := hide h
  clear h
  go_enter Try.func33, Try.ntmps33
  go_wp2_with (go_at_call 29; refine (H.out _ (by first | exact Below.refl _ _ | exact below_one _ | exact below_two _ _)).mono ?_; rintro e w' ⟨rfl, rfl⟩)
  go_ret2
  exact ⟨rfl, (by first | exact Below.refl _ _ | exact below_one _ | exact below_two _ _)⟩

theorem Text_no {v : Value} (s : ByteArray) (w : World) (h : NoSto w v) : Calls Try.prog 13 #[v, .string s] w fun e w' => e = .returned (.tuple #[.string ⟨#[]⟩, .int .i64 1]) ∧ Below w.heap.size w w' := by
  have H := hide h
  clear h
  go_enter Try.func13, Try.ntmps13
  go_wp2_with (go_at_call 33; refine (find_no s _ H.out).mono ?_; rintro e w1 ⟨rfl, q⟩; have Q := hide q; clear q)
  go_ret2
  exact ⟨rfl, Q.out⟩

theorem Lines_no {v : Value} (s : ByteArray) (w : World) (h : NoSto w v) : Calls Try.prog 20 #[v, .string s] w fun e w' => e = .returned (.tuple #[.slice none 0 0, .int .i64 1]) ∧ Below w.heap.size w w' := by
  have H := hide h
  clear h
  go_enter Try.func20, Try.ntmps20
  go_wp2_with (go_at_call 33; refine (find_no s _ H.out).mono ?_; rintro e w1 ⟨rfl, q⟩; have Q := hide q; clear q)
  go_ret2
  exact ⟨rfl, Q.out⟩

theorem Length_no {v : Value} (s : ByteArray) (w : World) (h : NoSto w v) : Calls Try.prog 23 #[v, .string s] w fun e w' => e = .returned (.tuple #[.int .i64 0, .int .i64 1]) ∧ Below w.heap.size w w' := by
  have H := hide h
  clear h
  go_enter Try.func23, Try.ntmps23
  go_wp2_with (go_at_call 33; refine (find_no s _ H.out).mono ?_; rintro e w1 ⟨rfl, q⟩; have Q := hide q; clear q)
  go_ret2
  exact ⟨rfl, Q.out⟩

theorem Rename_no {v : Value} (s t : ByteArray) (w : World) (h : NoSto w v) : Calls Try.prog 17 #[v, .string s, .string t] w fun e w' => e = .returned (.int .i64 1) ∧ Below w.heap.size w w' := by
  have H := hide h
  clear h
  go_enter Try.func17, Try.ntmps17
  go_wp2_with (go_at_call 33; refine (find_no s _ H.out).mono ?_; rintro e w1 ⟨rfl, q⟩; have Q := hide q; clear q)
  go_ret
  exact ⟨rfl, Q.out⟩

theorem Alias_no {v : Value} (s t : ByteArray) (w : World) (h : NoSto w v) : Calls Try.prog 14 #[v, .string s, .string t] w fun e w' => e = .returned (.int .i64 1) ∧ Below w.heap.size w w' := by
  have H := hide h
  clear h
  go_enter Try.func14, Try.ntmps14
  go_wp2_with (go_at_call 33; refine (find_no t _ H.out).mono ?_; rintro e w1 ⟨rfl, q⟩; have Q := hide q; clear q)
  go_ret
  exact ⟨rfl, Q.out⟩

theorem Chop_no {v : Value} (s : ByteArray) (w : World) (h : NoSto w v) : Calls Try.prog 45 #[v, .string s] w fun e w' => e = .returned (.int .i64 1) ∧ Below w.heap.size w w' := by
  have H := hide h
  clear h
  go_enter Try.func45, Try.ntmps45
  go_wp2_with (go_at_call 33; refine (find_no s _ H.out).mono ?_; rintro e w1 ⟨rfl, q⟩; have Q := hide q; clear q)
  go_ret
  exact ⟨rfl, Q.out⟩

theorem Part_no {v : Value} (s : ByteArray) (a b : Int) (w : World) (h : NoSto w v) : Calls Try.prog 12 #[v, .string s, .int .i64 a, .int .i64 b] w fun e w' => e = .returned (.int .i64 1) ∧ Below w.heap.size w w' := by
  have H := hide h
  clear h
  go_enter Try.func12, Try.ntmps12
  go_wp2_with (go_at_call 33; refine (find_no s _ H.out).mono ?_; rintro e w1 ⟨rfl, q⟩; have Q := hide q; clear q)
  go_ret
  exact ⟨rfl, Q.out⟩

theorem Define_no {v : Value} (s t : ByteArray) (w : World) (h : NoSto w v) : Calls Try.prog 11 #[v, .string s, .string t] w fun e w' => e = .returned (.int .i64 1) ∧ Below w.heap.size w w' := by
  have H := hide h
  clear h
  go_enter Try.func11, Try.ntmps11
  go_wp2_with (go_at_call 29; refine (H.out _ (by first | exact Below.refl _ _ | exact below_one _ | exact below_two _ _)).mono ?_; rintro e w' ⟨rfl, rfl⟩)
  go_ret
  exact ⟨rfl, (by first | exact Below.refl _ _ | exact below_one _ | exact below_two _ _)⟩

theorem Macro_no {v : Value} (s : ByteArray) (A : Option Addr) (n c : Nat) (w : World) (h : NoSto w v) : Calls Try.prog 15 #[v, .string s, .slice A n c] w fun e w' => e = .returned (.int .i64 1) ∧ Below w.heap.size w w' := by
  have H := hide h
  clear h
  go_enter Try.func15, Try.ntmps15
  go_wp2_with (go_at_call 29; refine (H.out _ (by first | exact Below.refl _ _ | exact below_one _ | exact below_two _ _)).mono ?_; rintro e w' ⟨rfl, rfl⟩)
  go_ret
  exact ⟨rfl, (by first | exact Below.refl _ _ | exact below_one _ | exact below_two _ _)⟩

theorem Append_no {v : Value} (s t : ByteArray) (w : World) (h : NoSto w v) : Calls Try.prog 16 #[v, .string s, .string t] w fun e w' => e = .returned (.int .i64 1) ∧ Below w.heap.size w w' := by
  have H := hide h
  clear h
  go_enter Try.func16, Try.ntmps16
  go_wp2_with (first | (go_at_call 29; refine (H.out _ (by first | exact Below.refl _ _ | exact below_one _ | exact below_two _ _)).mono ?_; rintro e w' ⟨rfl, rfl⟩) | (go_at_call 11; refine (Define_no s t _ H.out).mono ?_; rintro e w1 ⟨rfl, q⟩; have Q := hide q; clear q))
  go_ret
  exact ⟨rfl, Q.out⟩

theorem Add_no {v : Value} (s : ByteArray) (A : Option Addr) (n c : Nat) (w : World) (h : NoSto w v) : Calls Try.prog 19 #[v, .string s, .slice A n c] w fun e w' => e = .returned (.int .i64 1) ∧ Below w.heap.size w w' := by
  have H := hide h
  clear h
  go_enter Try.func19, Try.ntmps19
  go_wp2_with (first | (go_at_call 25; refine (Kind_no s _ H.out).mono ?_; rintro e w1 ⟨rfl, q⟩; have Q1 := hide q; clear q) | (go_at_call 15; refine (Macro_no s A n c _ (H.out.below Q1.out)).mono ?_; rintro e w2 ⟨rfl, q⟩; have Q := hide (below_self Q1.out q); clear q))
  go_ret
  exact ⟨rfl, Q.out⟩

theorem do_no {v : Value} (k : Int) (nm ot tx : ByteArray) (A : Option Addr) (n c : Nat) (a b : Int) (w : World) (h : NoSto w v) (h0 : 0 ≤ k) (h8 : k ≤ 8) : Calls Try.prog 24 #[v, .agg #[.int .i64 k, .string nm, .string ot, .string tx, .slice A n c, .int .i64 a, .int .i64 b]] w fun e w' => e = .returned (.int .i64 1) ∧ Below w.heap.size w w' := by
  have hal : Below w.heap.size w (w.alloc (.cells #[.int .i64 k, .string nm, .string ot, .string tx, .slice A n c, .int .i64 a, .int .i64 b] 44)) := below_one _
  have HAL := hide hal
  have HN := hide (h.below hal)
  clear hal h
  have hk : k = 0 ∨ k = 1 ∨ k = 2 ∨ k = 3 ∨ k = 4 ∨ k = 5 ∨ k = 6 ∨ k = 7 ∨ k = 8 := by omega
  clear h0 h8
  rcases hk with rfl | rfl | rfl | rfl | rfl | rfl | rfl | rfl | rfl
  · go_enter Try.func24, Try.ntmps24
    go_wp2_with (go_at_call 11; refine (Define_no nm tx _ HN.out).mono ?_; rintro e w2 ⟨rfl, q⟩; have Q := hide q; clear q)
    go_ret
    exact ⟨rfl, below_self HAL.out Q.out⟩
  · go_enter Try.func24, Try.ntmps24
    go_wp2_with (go_at_call 16; refine (Append_no nm tx _ HN.out).mono ?_; rintro e w2 ⟨rfl, q⟩; have Q := hide q; clear q)
    go_ret
    exact ⟨rfl, below_self HAL.out Q.out⟩
  · go_enter Try.func24, Try.ntmps24
    go_wp2_with (go_at_call 15; refine (Macro_no nm A n c _ HN.out).mono ?_; rintro e w2 ⟨rfl, q⟩; have Q := hide q; clear q)
    go_ret
    exact ⟨rfl, below_self HAL.out Q.out⟩
  · go_enter Try.func24, Try.ntmps24
    go_wp2_with (go_at_call 19; refine (Add_no nm A n c _ HN.out).mono ?_; rintro e w2 ⟨rfl, q⟩; have Q := hide q; clear q)
    go_ret
    exact ⟨rfl, below_self HAL.out Q.out⟩
  · go_enter Try.func24, Try.ntmps24
    go_wp2_with (go_at_call 28; refine (Remove_no nm _ HN.out).mono ?_; rintro e w2 ⟨rfl, q⟩; have Q := hide q; clear q)
    go_ret
    exact ⟨rfl, below_self HAL.out Q.out⟩
  · go_enter Try.func24, Try.ntmps24
    go_wp2_with (go_at_call 17; refine (Rename_no nm ot _ HN.out).mono ?_; rintro e w2 ⟨rfl, q⟩; have Q := hide q; clear q)
    go_ret
    exact ⟨rfl, below_self HAL.out Q.out⟩
  · go_enter Try.func24, Try.ntmps24
    go_wp2_with (go_at_call 14; refine (Alias_no nm ot _ HN.out).mono ?_; rintro e w2 ⟨rfl, q⟩; have Q := hide q; clear q)
    go_ret
    exact ⟨rfl, below_self HAL.out Q.out⟩
  · go_enter Try.func24, Try.ntmps24
    go_wp2_with (go_at_call 45; refine (Chop_no nm _ HN.out).mono ?_; rintro e w2 ⟨rfl, q⟩; have Q := hide q; clear q)
    go_ret
    exact ⟨rfl, below_self HAL.out Q.out⟩
  · go_enter Try.func24, Try.ntmps24
    go_wp2_with (go_at_call 12; refine (Part_no nm a b _ HN.out).mono ?_; rintro e w2 ⟨rfl, q⟩; have Q := hide q; clear q)
    go_ret
    exact ⟨rfl, below_self HAL.out Q.out⟩
end Go.Proofs.Ytbchokjhbjnfcaa
