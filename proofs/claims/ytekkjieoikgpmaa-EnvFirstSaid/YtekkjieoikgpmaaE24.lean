/- Environments that are nil, or were not made: what their functions answer. -/
import Derived.Test.YtekkjieoikgpmaaE23
set_option linter.unusedVariables false
set_option linter.unusedSimpArgs false
namespace Go.Proofs.Ytekkjieoikgpmaa
open Go.RowKit
set_option maxHeartbeats 1600000
set_option maxRecDepth 1000000

/-- There are no environments: none says so, whenever it is asked. -/
def NoEnv (w : World) (v : Value) : Prop := ∀ w', Below w.heap.size w w' → Calls Try.prog 51 #[v] w' fun e w'' => e = .returned (.bool true) ∧ w' = w''
theorem NoEnv.below {w w' : World} {v : Value} (h : NoEnv w v) (hb : Below w.heap.size w w') : NoEnv w' v := fun w'' h2 => h w'' (below_self hb h2)
theorem NoEnv.nil (w : World) : NoEnv w (.pointer none) := fun w' _ => by
  go_enter Try.func51, Try.ntmps51
  go_wp2
  go_ret
  exact ⟨rfl, rfl⟩
theorem none_none (w : World) (g : Nat) (h : w.cell? ⟨g, 0, none⟩ = some (.map none)) : Calls Try.prog 51 #[.pointer (some ⟨g, 0, none⟩)] w fun e w' => e = .returned (.bool true) ∧ w = w' := by
  have heq := fun W => eql_map W none
  go_enter Try.func51, Try.ntmps51
  go_wp2
  go_ret
  exact ⟨rfl, rfl⟩
theorem NoEnv.made {w : World} {g : Nat} (h : w.cell? ⟨g, 0, none⟩ = some (.map none)) : NoEnv w (.pointer (some ⟨g, 0, none⟩)) := fun w' hb =>
  none_none w' g ((cell_same (hb.block g (cell_lt h)) 0).trans h)
theorem below_one {w : World} (o : Obj) : Below w.heap.size w (w.alloc o) := (Below.refl _ _).alloc (Nat.le_refl _) _
theorem Name_no {v : Value} (w : World) (h : NoEnv w v) : Calls Try.prog 24 #[v] w fun e w' => e = .returned (.string ⟨#[]⟩) ∧ Below w.heap.size w w' := by
  have H := hide h
  clear h
  go_enter Try.func24, Try.ntmps24
  go_wp2_with (go_at_call 51; refine (H.out _ (by first | exact Below.refl _ _ | exact below_one _)).mono ?_; rintro e w' ⟨rfl, rfl⟩)
  go_ret
  exact ⟨rfl, (by first | exact Below.refl _ _ | exact below_one _)⟩
theorem Depth_no {v : Value} (w : World) (h : NoEnv w v) : Calls Try.prog 22 #[v] w fun e w' => e = .returned (.int .i64 0) ∧ Below w.heap.size w w' := by
  have H := hide h
  clear h
  go_enter Try.func22, Try.ntmps22
  go_wp2_with (go_at_call 51; refine (H.out _ (by first | exact Below.refl _ _ | exact below_one _)).mono ?_; rintro e w' ⟨rfl, rfl⟩)
  go_ret
  exact ⟨rfl, (by first | exact Below.refl _ _ | exact below_one _)⟩
theorem Leave_no {v : Value} (w : World) (h : NoEnv w v) : Calls Try.prog 23 #[v] w fun e w' => e = .returned (.int .i64 1) ∧ Below w.heap.size w w' := by
  have H := hide h
  clear h
  go_enter Try.func23, Try.ntmps23
  go_wp2_with (go_at_call 51; refine (H.out _ (by first | exact Below.refl _ _ | exact below_one _)).mono ?_; rintro e w' ⟨rfl, rfl⟩)
  go_ret
  exact ⟨rfl, (by first | exact Below.refl _ _ | exact below_one _)⟩
theorem Names_no {v : Value} (w : World) (h : NoEnv w v) : Calls Try.prog 27 #[v] w fun e w' => e = .returned (.slice none 0 0) ∧ Below w.heap.size w w' := by
  have H := hide h
  clear h
  go_enter Try.func27, Try.ntmps27
  go_wp2_with (go_at_call 51; refine (H.out _ (by first | exact Below.refl _ _ | exact below_one _)).mono ?_; rintro e w' ⟨rfl, rfl⟩)
  go_ret
  exact ⟨rfl, (by first | exact Below.refl _ _ | exact below_one _)⟩
theorem Copy_no {v : Value} (w : World) (h : NoEnv w v) : Calls Try.prog 28 #[v] w fun e w' => e = .returned (.pointer none) ∧ Below w.heap.size w w' := by
  have H := hide h
  clear h
  go_enter Try.func28, Try.ntmps28
  go_wp2_with (go_at_call 51; refine (H.out _ (by first | exact Below.refl _ _ | exact below_one _)).mono ?_; rintro e w' ⟨rfl, rfl⟩)
  go_ret
  exact ⟨rfl, (by first | exact Below.refl _ _ | exact below_one _)⟩
theorem Enter_no {v : Value} (s : ByteArray) (w : World) (h : NoEnv w v) : Calls Try.prog 20 #[v, .string s] w fun e w' => e = .returned (.int .i64 1) ∧ Below w.heap.size w w' := by
  have H := hide h
  clear h
  go_enter Try.func20, Try.ntmps20
  go_wp2_with (go_at_call 51; refine (H.out _ (by first | exact Below.refl _ _ | exact below_one _)).mono ?_; rintro e w' ⟨rfl, rfl⟩)
  go_ret
  exact ⟨rfl, (by first | exact Below.refl _ _ | exact below_one _)⟩
theorem Take_no {v : Value} (s : ByteArray) (w : World) (h : NoEnv w v) : Calls Try.prog 25 #[v, .string s] w fun e w' => e = .returned (.int .i64 1) ∧ Below w.heap.size w w' := by
  have H := hide h
  clear h
  go_enter Try.func25, Try.ntmps25
  go_wp2_with (go_at_call 51; refine (H.out _ (by first | exact Below.refl _ _ | exact below_one _)).mono ?_; rintro e w' ⟨rfl, rfl⟩)
  go_ret
  exact ⟨rfl, (by first | exact Below.refl _ _ | exact below_one _)⟩
theorem Put_no {v : Value} (C : Array Value) (w : World) (h : NoEnv w v) : Calls Try.prog 19 #[v, .agg C] w fun e w' => e = .returned (.int .i64 1) ∧ Below w.heap.size w w' := by
  have H := hide h
  clear h
  go_enter Try.func19, Try.ntmps19
  go_wp2_with (go_at_call 51; refine (H.out _ (by first | exact Below.refl _ _ | exact below_one _)).mono ?_; rintro e w' ⟨rfl, rfl⟩)
  go_ret
  exact ⟨rfl, (by first | exact Below.refl _ _ | exact below_one _)⟩
theorem Now_no {v : Value} (w : World) (h : NoEnv w v) : Calls Try.prog 18 #[v] w fun e w' => e = .returned (.agg firstCs.toArray) ∧ Below w.heap.size w w' := by
  have H := hide h
  clear h
  go_enter Try.func18, Try.ntmps18
  go_upto_region 1 with fail
  refine wp_one ?_
  intro W0 hb hbel hsz
  have HB := hide hb
  have HBEL := hide hbel
  clear hb hbel hsz
  go_wp2_with (first
    | (go_at_call 51; refine (H.out _ HBEL.out).mono ?_; rintro e w' ⟨rfl, rfl⟩)
    | (go_at_call 12
       refine (First_any _).mono ?_
       rintro e w1 ⟨rfl, q⟩
       have HB1 := hide (blk_below HB.out q (blk_lt HB.out))
       have Q := hide q
       clear q)
    | refine wpList_store_row rfl 29 _ _ rfl w.heap.size firstCs.toArray rfl rfl 29 _ HB1.out size_env rfl (env_one firstT rfl rfl) ?_)
  refine bodyPost_ret (results_cell_row rfl _ _ w.heap.size 29 firstCs.toArray (0, 0) _ rfl (setRow_heap _ _ _ _ _ _ HB1.out) Try.underlying29 rfl size_env) rfl ?_
  exact ⟨rfl, below_setRow (HBEL.out.trans (Q.out.mono HBEL.out.size)) (Nat.le_refl _) _⟩
end Go.Proofs.Ytekkjieoikgpmaa
