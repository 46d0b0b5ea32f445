/- slices.Grow and slices.Concat of lines. -/
import Derived.Test.YtbchokjhbjnfcaaS24
import Derived.Lib.AppendZeros
set_option linter.unusedVariables false
set_option linter.unusedSimpArgs false
namespace Go.Proofs.Ytbchokjhbjnfcaa
open Go.RowKit
set_option maxHeartbeats 1600000
set_option maxRecDepth 1000000

theorem Grow_any (n : Nat) (hn : n ≤ 1000000) (w : World) : Calls Try.prog 53 #[.slice none 0 0, .int .i64 n] w fun e w' => ∃ v, e = .returned v ∧ lineK.Own 61 w' (fun _ => False) w.heap.size v [] ∧ Below w.heap.size w w' := by
  rcases Nat.eq_zero_or_pos n with h0 | h0
  · subst h0
    exact (Grow_zero w).mono (by rintro e w' ⟨rfl, rfl⟩; exact ⟨_, rfl, Kind.Own.nil _ _ _ _ _, Below.refl _ _⟩)
  · obtain ⟨i0, hi, hz0, hz1, hz2⟩ := info_parts info_line
    have happ := Lib.run_append_nil_zeros (P := Try.prog) w 37 3 37 61 i0 _ .i64 .i64 Try.underlying37 (by kernel_rfl) hi hz0 n h0 (by rw [hz1]; decide) (by omega) (by rw [hz2]; omega)
    generalize hcap : grownCap w n 0 61 = cap at happ
    have hge : n ≤ cap := by rw [← hcap]; exact grownCap_ge w _ 0 _
    have hle : cap ≤ maxLen := by rw [← hcap]; exact grownCap_le_maxLen w _ 0 _ (by unfold maxLen; omega)
    generalize hZ : (Builtin.zeroCells (Value.agg #[.string ⟨#[]⟩, .bool false, .int .i64 0, .int .i64 0, .slice none 0 0]).cells n ++ Builtin.zeroCells (Value.agg #[.string ⟨#[]⟩, .bool false, .int .i64 0, .int .i64 0, .slice none 0 0]).cells (cap - n)) = Z at happ
    have hZs : Z.size = cap * 5 := by
      rw [← hZ]
      simp [size_zeroCells, Value.cells]
      omega
    have HZS := hide hZs
    have HLE := hide hle
    clear hcap hZ hZs
    go_enter Try.func53, Try.ntmps53
    go_wp2_with (at_builtin; refine Lib.wpList_append_run _ rfl _ _ _ _ rfl _ _ rfl rfl _ _ happ ?_)
    go_ret
    exact ⟨_, rfl, ⟨[], World.ownsRow_made w Z cap (Nat.le_refl _) HLE.out HZS.out, Kind.Reps.nil _ _ _⟩, ((Below.refl _ _).alloc (Nat.le_refl _) _).drew⟩
theorem Concat_any (g : Nat) (A1 : Option Addr) (n1 c1 : Nat) (A2 : Option Addr) (n2 c2 : Nat) (L1 L2 : List LineT) (ok1 ok2 : Nat → Prop) (w : World) (hg : w.heap[g]? = some (.cells #[.slice A1 n1 c1, .slice A2 n2 c2] 37 (0, 0)))
    (h1 : lineK.Rd w ok1 A1 n1 L1) (h2 : lineK.Rd w ok2 A2 n2 L2) (hn1 : n1 ≤ 100000) (hn2 : n2 ≤ 100000) :
    Calls Try.prog 42 #[.slice (some ⟨g, 0, none⟩) 2 2] w fun e w' => ∃ v, e = .returned v ∧ lineK.Own 61 w' (fun k => (ok1 k ∨ ok2 k) ∧ k < w.heap.size) w.heap.size v (L1 ++ L2) ∧ Below w.heap.size w w' := by
  have z0 : w.cell? ⟨g, 0, none⟩ = some (.slice A1 n1 c1) := by rw [blk_cell hg]; rfl
  have z1 : w.cell? ⟨g, 1, none⟩ = some (.slice A2 n2 c2) := by rw [blk_cell hg]; rfl
  have HR1 := hide (h1.bound.weaken (ok' := fun k => (ok1 k ∨ ok2 k) ∧ k < w.heap.size) (fun k hk => ⟨.inl hk.1, hk.2⟩))
  have HR2 := hide (h2.bound.weaken (ok' := fun k => (ok1 k ∨ ok2 k) ∧ k < w.heap.size) (fun k hk => ⟨.inr hk.1, hk.2⟩))
  have HL1 := hide h1.1
  have HL2 := hide h2.1
  have Z0 := hide z0
  have Z1 := hide z1
  obtain ⟨N, hN⟩ : ∃ N : Nat, N = n1 + n2 := ⟨_, rfl⟩
  have HN := hide hN
  clear h1 h2 hg z0 z1 hN
  go_enter Try.func42, Try.ntmps42
  go_wp2_with fail
  go_loopw [3, 5, 11] (fun t3 _ t11 wr => w = wr ∧ ((t11 = .int .i64 0 ∧ t3 = .int .i64 0) ∨ (t11 = .int .i64 1 ∧ t3 = .int .i64 (n1 : Int)) ∨ (t11 = .int .i64 2 ∧ t3 = .int .i64 (N : Int)))) (fun _ _ t11 _ => 2 - (intOf t11).toNat)
  case atStart => exact ⟨rfl, .inl ⟨rfl, rfl⟩⟩
  case round =>
    obtain ⟨rfl, ⟨rfl, rfl⟩ | ⟨rfl, rfl⟩ | ⟨rfl, rfl⟩⟩ := hrel
    · have z0 := Z0.out
      have j1 : ¬ (n1 : Int) < 0 := by omega
      go_wp2_with fail
      go_roundw
      case rel => exact ⟨trivial, .inr (.inl ⟨rfl, by go_num⟩)⟩
      case measure => simp [intOf]
    · have z1 := Z1.out
      have j1 : ¬ ((n1 : Int) + (n2 : Int)) < 0 := by omega
      go_wp2_with fail
      go_roundw
      case rel => exact ⟨trivial, .inr (.inr ⟨rfl, by have := HN.out; go_num⟩)⟩
      case measure => simp [intOf]
    · have hNN : N ≤ 1000000 := by have := HN.out; omega
      go_upto_region 10 with (go_at_call 53; refine (Grow_any N hNN _).mono ?_; rintro e w2 ⟨v2, rfl, q1, q2⟩; have HO2 := hide q1; have HB2 := hide q2; clear q1 q2)
      have HOW := hide (show lineK.Own 61 w2 (fun k => (ok1 k ∨ ok2 k) ∧ k < w.heap.size) w.heap.size v2 [] from Kind.Own.weaken HO2.out (fun _ h => False.elim h))
      clear HO2
      go_upto_region 11 with fail
      go_loopw [6, 8, 27] (fun t6 _ t27 wr => ∃ v6, v6 = t6 ∧ Hid (Below w.heap.size w wr) ∧ ((t27 = .int .i64 0 ∧ Hid (lineK.Own 61 wr (fun k => (ok1 k ∨ ok2 k) ∧ k < w.heap.size) w.heap.size v6 [])) ∨ (t27 = .int .i64 1 ∧ Hid (lineK.Own 61 wr (fun k => (ok1 k ∨ ok2 k) ∧ k < w.heap.size) w.heap.size v6 L1)) ∨ (t27 = .int .i64 2 ∧ Hid (lineK.Own 61 wr (fun k => (ok1 k ∨ ok2 k) ∧ k < w.heap.size) w.heap.size v6 (L1 ++ L2))))) (fun _ _ t27 _ => 2 - (intOf t27).toNat)
      case atStart => exact ⟨_, rfl, HB2, .inl ⟨rfl, HOW⟩⟩
      case round =>
        obtain ⟨v6, rfl, HB, ⟨rfl, HO⟩ | ⟨rfl, HO⟩ | ⟨rfl, HO⟩⟩ := hrel
        · have z0 := cell_stays HB.out Z0.out
          have hno : ∀ k, ((ok1 k ∨ ok2 k) ∧ k < w.heap.size) → v6.ownBlock ≠ some k := fun k hk e => by have := (HO.out.lt k e).1; omega
          have hl1 := HL1.out
          go_wp2_with (at_builtin; refine wpList_append_rd (ok := fun k => (ok1 k ∨ ok2 k) ∧ k < w.heap.size) (base := w.heap.size) wr lineK rfl _ _ 37 rfl 61 _ 64 Try.underlying37 info_line rfl (by decide) (by decide) v6 [] rfl HO.out A1 n1 c1 L1 rfl (HR1.out.below HB.out) hno (by simp; omega) HB.out.size ?_; intro v7 w7 hown hgr hat; have HO7 := hide hown; have HB7 := hide (HB.out.grown hgr HB.out.size (fun k hk => (HO.out.lt k hk).1)); clear hown hgr hat)
          go_roundw
          case rel => exact ⟨_, rfl, HB7, .inr (.inl ⟨rfl, by simpa using HO7⟩)⟩
          case measure => simp [intOf]
        · have z1 := cell_stays HB.out Z1.out
          have hno : ∀ k, ((ok1 k ∨ ok2 k) ∧ k < w.heap.size) → v6.ownBlock ≠ some k := fun k hk e => by have := (HO.out.lt k e).1; omega
          have hl1 := HL1.out
          go_wp2_with (at_builtin; refine wpList_append_rd (ok := fun k => (ok1 k ∨ ok2 k) ∧ k < w.heap.size) (base := w.heap.size) wr lineK rfl _ _ 37 rfl 61 _ 64 Try.underlying37 info_line rfl (by decide) (by decide) v6 L1 rfl HO.out A2 n2 c2 L2 rfl (HR2.out.below HB.out) hno (by omega) HB.out.size ?_; intro v7 w7 hown hgr hat; have HO7 := hide hown; have HB7 := hide (HB.out.grown hgr HB.out.size (fun k hk => (HO.out.lt k hk).1)); clear hown hgr hat)
          go_roundw
          case rel => exact ⟨_, rfl, HB7, .inr (.inr ⟨rfl, HO7⟩)⟩
          case measure => simp [intOf]
        · go_wp2_with fail
          go_ret
          exact ⟨_, rfl, HO.out, HB.out⟩
end Go.Proofs.Ytbchokjhbjnfcaa
