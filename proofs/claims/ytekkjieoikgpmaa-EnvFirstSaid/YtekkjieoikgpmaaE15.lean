/- The environments: Leave. -/
import Derived.Test.YtekkjieoikgpmaaE14
set_option linter.unusedVariables false
set_option linter.unusedSimpArgs false
namespace Go.Proofs.Ytekkjieoikgpmaa
open Go.RowKit
set_option maxHeartbeats 3200000
set_option maxRecDepth 1000000

theorem Leave_some {X : Nat → Prop} {w : World} {g b sz : Nat} {F : ByteArray → Option EnvT} {now : ByteArray} {sv : Value} {L : List ByteArray} {s : ByteArray} (h : EnvsAt X w g b F sz now sv (L ++ [s])) :
    Calls Try.prog 23 #[.pointer (some ⟨g, 0, none⟩)] w fun e w' => e = .returned (.int .i64 0) ∧ ∃ sv', EnvsAt X w' g b F sz s sv' L ∧ Kept (Mut g b sv) w w' ∧ (∀ k, sv'.ownBlock = some k → sv.ownBlock = some k ∨ w.heap.size ≤ k) := by
  obtain ⟨c0, c1, c2⟩ := h.cells
  obtain ⟨gs, cap, rfl, hl1, hl2, hcell⟩ := h.stack.get (i := L.length) (s := s) (by simp)
  have hdep : L.length + 1 ≤ 20 := by have := h.depth; simpa using this
  have H := hide h
  obtain ⟨n, hn⟩ : ∃ n, n = L.length := ⟨_, rfl⟩
  have hlen : (L ++ [s]).length = n + 1 := by rw [hn]; simp
  rw [hlen] at c2 hl1
  rw [← hn] at hcell hdep
  have HN := hide hn
  have HLEN := hide hlen
  have hz : w.frozen? ⟨g, 1, none⟩ = false := blk_frozen h.blk
  have hz2 : w.frozen? ⟨g, 2, none⟩ = false := blk_frozen h.blk
  have hgs : gs ≠ g := fun e => h.gs (by rw [e]; simp [Value.ownBlock])
  have i1 : IntKind.i64.wrap (((n + 1 : Nat) : Int) - 1) = (n : Int) := by rw [show ((n + 1 : Nat) : Int) - 1 = (n : Int) by omega, IntKind.wrap_i64]; omega
  have i2 : (0 : Int) ≤ (n : Int) := by omega
  have i3 : (n : Int) < ((n + 1 : Nat) : Int) := by omega
  have i4 : (n : Int) ≤ (cap : Int) := by omega
  have i5 : ((n + 1 : Nat) : Int) ≠ 0 := by omega
  rw [hlen]
  clear h hn hlen
  go_enter Try.func23, Try.ntmps23
  go_upto_region 6 with (go_at_call 51; refine (none_at _ _ _ c0).mono ?_; rintro e w' ⟨rfl, rfl⟩)
  go_region
  all_goals go_wp2_with fail
  all_goals go_ret
  all_goals
    have hb1 := blk_set H.out.blk 1 (.string s)
    have hb2 := blk_set hb1 2 (.slice (some ⟨gs, 0, none⟩) n n)
    have hst0 := H.out.stack
    rw [HLEN.out] at hst0
    have hlt := H.out.lt
    have hk : Kept (fun k => k = g ∨ (Value.slice (some ⟨gs, 0, none⟩) (L ++ [s]).length cap).ownBlock = some k) w (((w.setCell ⟨g, 1, none⟩ (.string s)).setCell ⟨g, 2, none⟩ (.slice (some ⟨gs, 0, none⟩) n n)).drew) :=
      (((Kept.refl _ w).setCell (p := ⟨g, 1, none⟩) (.inl (.inl rfl)) _).setCell (p := ⟨g, 2, none⟩) (.inl (.inl rfl)) _).drew
    have hpop : Stk w (.slice (some ⟨gs, 0, none⟩) n n) L := by
      have h1 := (show Stk w (.slice (some ⟨gs, 0, none⟩) (L ++ [s]).length cap) (L ++ [s]) from by rw [HLEN.out]; exact hst0).pop (n := n) (by rw [HLEN.out])
      rw [HN.out, List.take_left] at h1
      rw [HN.out]; exact h1
    have hob : ∀ (m c : Nat), (Value.slice (some ⟨gs, 0, none⟩) m c).ownBlock = some gs := fun m c => rfl
    refine ⟨rfl, .slice (some ⟨gs, 0, none⟩) n n, H.out.move hk hb2 (hpop.step (fun k hk2 => ?_)) (fun k hk2 => .inl hk2) (H.out.left s (by simp)) (fun t ht => H.out.left t (by simp [ht])) (by rw [← HN.out]; omega), hk.mono (fun k _ e => e.elim .inl (fun e => .inr (.inr e))), fun k hk2 => .inl hk2⟩
    have hkg : gs = k := by rw [hob] at hk2; exact Option.some.inj hk2
    exact (Below.heap_setCell _ ⟨g, 2, none⟩ _ k (by show k ≠ g; omega)).trans (Below.heap_setCell _ ⟨g, 1, none⟩ _ k (by show k ≠ g; omega))
end Go.Proofs.Ytekkjieoikgpmaa
