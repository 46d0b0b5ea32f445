/- sane of chapter 16. -/
import Derived.Test.YtekkjieoikgpmaaE23
set_option linter.unusedVariables false
set_option linter.unusedSimpArgs false
namespace Go.Proofs.Ytekkjieoikgpmaa
open Go.RowKit
set_option maxHeartbeats 1600000
set_option maxRecDepth 1000000

def sizeT (x : EnvT) (n : Int) : EnvT := { x with size := n }
theorem size_cells (x : EnvT) (u v : Value) (n : Int) : (x.cells u v).toArray.setIfInBounds 2 (.int .i64 n) = ((sizeT x n).cells u v).toArray := rfl
theorem env_inj {x : EnvT} {u v u' v' : Value} (h : x.cells u v = x.cells u' v') : u = u' ∧ v = v' := by
  have h21 := congrArg (fun l => l[21]?) h
  have h35 := congrArg (fun l => l[35]?) h
  exact ⟨Option.some.inj h21, Option.some.inj h35⟩
theorem sl_of_K {w : World} {ok : Nat → Prop} {x : EnvT} {u v : Value} (h : envK.K w ok x (x.cells u v)) : stopK.Sl w ok u x.stops ∧ boxK.Sl w ok v x.row := by
  obtain ⟨u', v', e1, h1, h2⟩ := h
  obtain ⟨rfl, rfl⟩ := env_inj e1
  exact ⟨h1, h2⟩
theorem field_size (x : EnvT) (u v : Value) (w : World) : (Instr.field 29 (.agg (x.cells u v).toArray) 2).run Try.prog w = .ok (.int .i64 x.size) w := by kernel_rfl
theorem sane_any (w : World) : Calls Try.prog 9 #[] w fun e w' => e = .returned (.bool true) ∧ Below w.heap.size w w' := by
  have hv12 : validE (sizeT firstT 12) = true := by kernel_rfl
  have hna : nameB ⟨#[97]⟩ = true := by kernel_rfl
  have HV := hide hv12
  have HNA := hide hna
  clear hv12 hna
  go_enter Try.func9, Try.ntmps9
  go_upto_region 2 with (go_at_call 17
                         refine (New_any _).mono ?_
                         rintro e w1 ⟨g, b, rfl, hg, hb, h1, q⟩
                         have HG := hide hg
                         have HB := hide hb
                         have H1 := hide h1
                         have Q1 := hide q
                         clear hg hb h1 q)
  go_upto_region 4 with (go_at_call 20
                         refine (Enter_new H1.out (s := ⟨#[97]⟩) (by decide) rfl HNA.out (by simp) (by omega)).mono ?_
                         rintro e w2 ⟨rfl, sv2, h2, hk2, hs2⟩
                         have H2 := hide h2
                         have HB2 := hide (show Below w.heap.size w w2 from Q1.out.trans (hk2.below Q1.out.size (fun k hk => by
                           rcases hk with rfl | rfl | hk
                           · exact HG.out
                           · exact HB.out
                           · simp [Value.ownBlock] at hk)))
                         have HS2 := hide (show ∀ k, sv2.ownBlock = some k → w.heap.size ≤ k from fun k hk => (hs2 k hk).elim (fun e => by simp [Value.ownBlock] at e) (fun e => Nat.le_trans Q1.out.size e))
                         clear h2 hk2 hs2)
  go_upto_region 5 with (first
    | (go_at_call 18
       refine (Now_any H2.out (x := firstT) (updT_same _ _ _)).mono ?_
       rintro e w3 ⟨cs3, rfl, hk3, q3⟩
       obtain ⟨u3, v3, rfl, -, -⟩ := id hk3
       have H3 := hide (H2.out.below q3)
       have HB3 := hide (HB2.out.trans (q3.mono HB2.out.size))
       have HK3 := hide hk3
       have HQ3 := hide q3
       clear hk3 q3)
    | refine wpList_store_row rfl 29 _ _ rfl w3.heap.size (firstT.cells u3 v3).toArray rfl rfl 29 _ (blk_new _ _) (by rw [size_env]; rfl) rfl (all_oneCell_toArray (envK.one HK3.out)) ?_)
  refine wp_setRow (blk_new _ _) ?_
  intro W4 hb4 hk4 hsz4
  have hbe4 : Below w3.heap.size w3 W4 := ((Below.refl _ _).alloc (Nat.le_refl _) (.cells _ 29)).trans (hk4.below (by simp) (fun i h => by omega))
  have z2 : W4.cell? ⟨w3.heap.size, 2, none⟩ = some (.int .i64 10) := by rw [blk_cell hb4]; rfl
  have z2f : W4.frozen? ⟨w3.heap.size, 2, none⟩ = false := blk_frozen hb4
  have H4 := hide (H3.out.below hbe4)
  have HK4 := hide (Kind.below HK3.out hbe4)
  have HB4 := hide (HB3.out.trans (hbe4.mono HB3.out.size))
  have HBK4 := hide hb4
  have HS3 := hide (show w.heap.size ≤ w3.heap.size from HB3.out.size)
  have HBE4 := hide hbe4
  clear hb4 hk4 hsz4 hbe4
  go_upto_region 6 with fail
  refine wp_set HBK4.out ?_
  rw [size_cells]
  intro W5 hb5 hk5 hsz5
  have hbe5 : Below w3.heap.size w3 W5 := HBE4.out.trans (hk5.below HBE4.out.size (fun i h => by omega))
  obtain ⟨hs5, hr5⟩ := sl_of_K (Kind.below HK3.out hbe5)
  have hK5 : envK.K W5 (fun k => w2.heap.size ≤ k) (sizeT firstT 12) ((sizeT firstT 12).cells u3 v3) := ⟨u3, v3, rfl, hs5, hr5⟩
  have H5 := hide (H3.out.below hbe5)
  have HB5 := hide (show Below w.heap.size w W5 from HB4.out.trans (hk5.below HB4.out.size (fun i h => by have := HS3.out; omega)))
  have HK5 := hide hK5
  have HBK5 := hide hb5
  clear hb5 hk5 hsz5 hK5 z2 z2f hbe5 hs5 hr5
  go_wp2_with (first
    | refine wpList_load_row rfl 29 _ rfl w3.heap.size rfl 29 _ (0, 0) _ HBK5.out Try.underlying29 rfl (by rw [size_env]; rfl) ?_
    | (go_at_call 19
       refine (Put_ok H5.out HK5.out first_small HV.out).mono ?_
       rintro e w6 ⟨rfl, h6, hk6⟩
       have H6 := hide h6
       have HB6 := hide (show Below w.heap.size w w6 from HB5.out.trans (hk6.below HB5.out.size (fun k hk => by have := HB.out; omega)))
       clear h6 hk6)
    | (go_at_call 18
       have hh := HB8.out
       clear hh
       refine (Now_any H8.out (x := firstT) (by rw [updT_other _ _ (by decide), updT_other _ _ (by decide), updT_same])).mono ?_
       rintro e w9 ⟨cs9, rfl, hk9, q9⟩
       obtain ⟨u9, v9, rfl, -, -⟩ := id hk9
       have hp9 := fun W => field_size firstT u9 v9 W
       have HB9 := hide (HB8.out.trans (q9.mono HB8.out.size))
       clear hk9 q9)
    | (go_at_call 18
       refine (Now_any H6.out (x := sizeT firstT 12) (updT_same _ _ _)).mono ?_
       rintro e w7 ⟨cs7, rfl, hk7, q7⟩
       obtain ⟨u7, v7, rfl, -, -⟩ := id hk7
       have hp7 := fun W => field_size (sizeT firstT 12) u7 v7 W
       have H7 := hide (H6.out.below q7)
       have HB7 := hide (HB6.out.trans (q7.mono HB6.out.size))
       clear hk7 q7)
    | (go_at_call 23
       refine (Leave_some H7.out).mono ?_
       rintro e w8 ⟨rfl, sv8, h8, hk8, hs8⟩
       have H8 := hide h8
       have HB8 := hide (show Below w.heap.size w w8 from HB7.out.trans (hk8.below HB7.out.size (fun k hk => by
         rcases hk with rfl | rfl | hk
         · exact HG.out
         · exact HB.out
         · exact HS2.out k hk)))
       clear h8 hk8 hs8))
  go_ret
  exact ⟨rfl, HB9.out⟩
end Go.Proofs.Ytekkjieoikgpmaa
