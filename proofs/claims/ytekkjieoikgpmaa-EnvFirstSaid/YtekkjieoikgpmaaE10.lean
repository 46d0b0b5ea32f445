/- The environments: what they are in memory; First, New, none; the stack of names. -/
import Derived.Test.YtekkjieoikgpmaaE9
import Derived.ArgAppend
set_option linter.unusedVariables false
set_option linter.unusedSimpArgs false
namespace Go.Proofs.Ytekkjieoikgpmaa
open Go.RowKit
set_option maxHeartbeats 3200000
set_option maxRecDepth 1000000

/-- The first environment. -/
def firstT : EnvT := ⟨0, 0, 10, 10, 120, 1, 4680, 4680, 0, -1, true, true, false, true, true, 98, 0, 0, 0, 12, 12, [], 360, ⟨#[]⟩, ⟨#[46]⟩, ⟨#[]⟩, ⟨#[]⟩, ⟨#[]⟩, 0, false, 0, 1, 1, 0, 0, [], 0, 0, false, true⟩
def firstCs : List Value := firstT.cells (.slice none 0 0) (.slice none 0 0)
theorem first_K (w : World) (ok : Nat → Prop) : envK.K w ok firstT firstCs := ⟨_, _, rfl, Kind.Sl.nil _ _ _, Kind.Sl.nil _ _ _⟩
theorem first_small : firstT.small := ⟨by decide, by decide, fun y h => by cases h⟩
theorem wpList_built {P : Program} {ops : Array Oper} {rest : List Oper} {o : Oper} {a : Act} {w : World} {Q : Exit → Act → World → Prop} (hg : o.guard = none) (t : TypeId) (parts : Array (Nat × Operand)) (cs : Array Value) (ho : o.op = .build t parts)
    (hf : P.built t (parts.map fun (i, x) => (i, a.eval x)).toList = some cs) (h : wpList P ops Q rest (a.put o.dst (.agg cs)) w) : wpList P ops Q (o :: rest) a w :=
  wpList_build hg t parts ho (by rw [hf]; rfl) (by rw [hf]; exact h)
theorem First_any (w : World) : Calls Try.prog 12 #[] w fun e w' => e = .returned (.agg firstCs.toArray) ∧ Below w.heap.size w w' := by
  go_enter Try.func12, Try.ntmps12
  go_upto_region 1 with fail
  refine wp_one ?_
  intro W0 hb hbel hsz
  have HB := hide hb
  have HBEL := hide hbel
  clear hb hbel hsz
  go_wp2_with (first | refine wpList_built rfl 29 _ firstCs.toArray rfl (by kernel_rfl) ?_ | refine wpList_store_row rfl 29 _ _ rfl w.heap.size firstCs.toArray rfl rfl 29 _ HB.out size_env rfl (env_one firstT rfl rfl) ?_)
  refine bodyPost_ret (results_cell_row rfl _ _ w.heap.size 29 firstCs.toArray (0, 0) _ rfl (setRow_heap _ _ _ _ _ _ HB.out) Try.underlying29 rfl size_env) rfl ?_
  exact ⟨rfl, below_setRow HBEL.out (Nat.le_refl _) _⟩

/-! ### the stack -/
/-- sv is a slice of names that reads as L; its row begins at a block's head. -/
def Stk (w : World) (sv : Value) (L : List ByteArray) : Prop :=
  (sv = .slice none 0 0 ∧ L = []) ∨ ∃ g cap cur, sv = .slice (some ⟨g, 0, none⟩) L.length cap ∧ w.heap[g]? = some (.cells cur 9 (0, 0)) ∧ L.length ≤ cap ∧ cap ≤ cur.size ∧ cap ≤ maxLen ∧ cur.toList.take L.length = L.map Value.string
namespace Stk
variable {w w' : World} {sv : Value} {L : List ByteArray}
theorem nil (w : World) : Stk w (.slice none 0 0) [] := .inl ⟨rfl, rfl⟩
theorem step (h : Stk w sv L) (hm : ∀ k, sv.ownBlock = some k → w'.heap[k]? = w.heap[k]?) : Stk w' sv L := by
  rcases h with h | ⟨g, cap, cur, rfl, hg, h1, h2, h3, h4⟩
  · exact .inl h
  · exact .inr ⟨g, cap, cur, rfl, (hm g (by simp [Value.ownBlock])).trans hg, h1, h2, h3, h4⟩
theorem lt (h : Stk w sv L) : ∀ k, sv.ownBlock = some k → k < w.heap.size := by
  rcases h with ⟨rfl, -⟩ | ⟨g, cap, cur, rfl, hg, -⟩
  · intro k hk; simp [Value.ownBlock] at hk
  · intro k hk
    have : g = k := by simpa [Value.ownBlock] using hk
    subst this
    exact blk_lt hg
theorem typed (h : Stk w sv L) : ∀ k, sv.ownBlock = some k → ∃ cur, w.heap[k]? = some (.cells cur 9 (0, 0)) := by
  rcases h with ⟨rfl, -⟩ | ⟨g, cap, cur, rfl, hg, -⟩
  · intro k hk; simp [Value.ownBlock] at hk
  · intro k hk
    have : g = k := by simpa [Value.ownBlock] using hk
    subst this
    exact ⟨cur, hg⟩
theorem form (h : Stk w sv L) : ∃ A cap, sv = .slice A L.length cap ∧ L.length ≤ cap ∧ cap ≤ 9223372036854775807 := by
  have hm : maxLen = 9223372036854775807 := rfl
  rcases h with ⟨rfl, rfl⟩ | ⟨g, cap, cur, rfl, hg, h1, h2, h3, h4⟩
  · exact ⟨none, 0, rfl, Nat.le_refl _, by omega⟩
  · exact ⟨_, cap, rfl, h1, by omega⟩
theorem get (h : Stk w sv L) {i : Nat} {s : ByteArray} (hi : L[i]? = some s) : ∃ g cap, sv = .slice (some ⟨g, 0, none⟩) L.length cap ∧ L.length ≤ cap ∧ cap ≤ 9223372036854775807 ∧ w.cell? ⟨g, i, none⟩ = some (.string s) := by
  have hm : maxLen = 9223372036854775807 := rfl
  rcases h with ⟨rfl, rfl⟩ | ⟨g, cap, cur, rfl, hg, h1, h2, h3, h4⟩
  · cases hi
  · refine ⟨g, cap, rfl, h1, by omega, ?_⟩
    rw [blk_cell hg]
    have h5 : (cur.toList.take L.length)[i]? = (L.map Value.string)[i]? := by rw [h4]
    rw [List.getElem?_map, hi, List.getElem?_take, if_pos (List.getElem?_eq_some_iff.1 hi).1] at h5
    rw [← Array.getElem?_toList, h5]
    rfl
/-- The last name is taken off. -/
theorem pop {g : Nat} {cap n : Nat} (h : Stk w (.slice (some ⟨g, 0, none⟩) L.length cap) L) (hn : n + 1 = L.length) : Stk w (.slice (some ⟨g, 0, none⟩) n n) (L.take n) := by
  have hm : maxLen = 9223372036854775807 := rfl
  rcases h with ⟨h, -⟩ | ⟨g', cap', cur, h, hg, h1, h2, h3, h4⟩
  · cases h
  · injection h with e1 e2 e3
    injection e1 with e1
    injection e1 with e1 _
    subst e1
    subst e3
    have hl : (L.take n).length = n := by rw [List.length_take]; omega
    refine .inr ⟨g, n, cur, by rw [hl], hg, by omega, by omega, by omega, ?_⟩
    rw [hl, List.map_take, ← h4, List.take_take, Nat.min_eq_left (by omega)]
theorem info_str : (Try.prog.info? 9).map (fun i => (i.zero, i.size, i.bytes)) = some (some (.string ⟨#[]⟩), 1, 16) := by kernel_rfl
/-- A name is put on. -/
theorem push (h : Stk w sv L) (s : ByteArray) (hL : L.length ≤ 1000) (ty : TypeId) :
    ∃ v' w', (Builtin.append_ #[60, 60] ty #[sv, .slice (some ⟨w.heap.size, 0, none⟩) 1 1]).run Try.prog (w.alloc (.cells #[.string s] 9)) = .ok v' w' ∧ Stk w' v' (L ++ [s]) ∧ w.grownBy w' sv.ownBlock ∧ (v'.ownBlock = sv.ownBlock ∨ ∃ k, v'.ownBlock = some k ∧ w.heap.size < k) := by
  have hm : maxLen = 9223372036854775807 := rfl
  obtain ⟨i0, hi, hzz⟩ := Option.map_eq_some_iff.1 info_str
  simp only [Prod.mk.injEq] at hzz
  obtain ⟨hz0, hz1, hz2⟩ := hzz
  have hnew := blk_new w (.cells #[.string s] 9)
  have hcell : ∀ j u, [Value.string s][j]? = some u → (w.alloc (.cells #[.string s] 9)).cell? ((⟨w.heap.size, 0, none⟩ : Addr).add j) = some u := by
    intro j u hu
    rw [Addr.add_lit, blk_cell hnew]
    simpa using hu
  have hg0 := World.grownBy_alloc w (.cells #[.string s] 9) sv.ownBlock
  rcases h with ⟨rfl, rfl⟩ | ⟨g, cap, cur, rfl, hg, h1, h2, h3, h4⟩
  · obtain ⟨v', w', hrun, h5, h6, h7, h8⟩ := run_append_own_at (P := Try.prog) (w.alloc (.cells #[.string s] 9)) w.heap.size 60 ty 9 i0 (.string ⟨#[]⟩) 1 16 Try.underlying60 hi hz0 hz1 hz2 rfl (by decide) (.slice none 0 0) 0 [] (World.ownsRow_nil _ _ _ _) ⟨w.heap.size, 0, none⟩ 1 1 [.string s] rfl hcell (fun u hu => by rw [List.mem_singleton.1 hu]; rfl) (by omega) (by decide) (by simp)
    refine ⟨v', w', hrun, ?_, hg0.trans h6, ?_⟩
    · rcases h5.2 with ⟨rfl, h0⟩ | ⟨g, cap, cur, rfl, hg, hh, hn, hmx, hs, ht⟩
      · omega
      · exact .inr ⟨g, cap, cur, rfl, hh, hn, by omega, hmx, ht⟩
    · rcases h8 with h8 | h8
      · exact .inl h8
      · exact .inr ⟨_, h8, by simp⟩
  · have hgl := blk_lt hg
    have hga := blk_alloc hg (.cells #[.string s] 9)
    by_cases hroom : L.length + 1 ≤ cap
    · have hr := run_append_room_cells (P := Try.prog) (w.alloc (.cells #[.string s] 9)) 60 ty 9 i0 Try.underlying60 hi g 0 L.length cap ⟨w.heap.size, 0, none⟩ 1 1 [.string s] (by rw [hz1]; rfl) hcell (fun u hu => by rw [List.mem_singleton.1 hu]; rfl) hroom
        (fun j hj => by
          have hj0 : j = 0 := by simpa using hj
          subst hj0
          rw [blk_cell hga, hz1, Array.getElem?_eq_getElem (by omega)]; rfl) (fun j hj => blk_frozen hga)
      refine ⟨_, _, hr, ?_, hg0.trans (setCells_grown g _ _ _), .inl rfl⟩
      rw [hz1]
      have hb := setCells_blk g 9 (0, 0) [.string s] (0 + L.length * 1) _ cur hga (by simp; omega)
      refine .inr ⟨g, cap, _, by rw [List.length_append]; rfl, hb, by rw [List.length_append]; exact hroom, ?_, h3, ?_⟩
      · simp only [List.size_toArray, List.length_append, List.length_take, List.length_drop, Array.length_toList, List.length_singleton]
        omega
      · have e0 : 0 + L.length * 1 = L.length := by omega
        rw [e0, List.length_append, List.length_singleton, List.map_append, ← h4]
        have hcl : cur.toList.length = cur.size := Array.length_toList
        have hl : (cur.toList.take L.length).length = L.length := by rw [List.length_take]; omega
        rw [List.take_append_of_le_length (by rw [List.length_append, hl]; simp), List.take_of_length_le (by rw [List.length_append, hl]; simp)]
        rfl
    · obtain ⟨v', w', hrun, h5, h6⟩ := run_append_arg_grows (P := Try.prog) (w.alloc (.cells #[.string s] 9)) 60 ty 9 i0 (.string ⟨#[]⟩) 1 16 Try.underlying60 hi hz0 hz1 hz2 rfl (by decide) ⟨g, 0, none⟩ L.length cap (L.map Value.string) (by simp)
        (fun j u hu => by
          rw [Addr.add_lit, blk_cell hga, Nat.zero_add]
          rw [← h4, List.getElem?_take] at hu
          split at hu
          · rw [← hu]; simp
          · cases hu) ⟨w.heap.size, 0, none⟩ 1 1 [.string s] rfl hcell (by omega) (by omega) (by omega)
      refine ⟨v', w', hrun, ?_, ⟨h6.os.trans hg0.os, h6.tape.trans hg0.tape, h6.output.trans hg0.output, Nat.le_trans hg0.size h6.size, fun k hk hne => (h6.block k (by simp; omega) (by simp)).trans (hg0.block k hk hne)⟩, ?_⟩
      · rcases h5.2 with ⟨rfl, h0⟩ | ⟨g', cap', cur', rfl, hg', hh, hn, hmx, hs, ht⟩
        · omega
        · exact .inr ⟨g', cap', cur', by rw [List.length_append]; rfl, hh, by rw [List.length_append]; exact hn, by omega, hmx, by
            rw [List.length_append, List.map_append]
            simpa using ht⟩
      · rcases h5.2 with ⟨rfl, h0⟩ | ⟨g', cap', cur', rfl, hg', hh, hn, hmx, hs, ht⟩
        · omega
        · exact .inr ⟨g', by simp [Value.ownBlock], by simp at hg'; omega⟩
end Stk
end Go.Proofs.Ytekkjieoikgpmaa
