/- The environments: Enter. -/
import Derived.Test.YtekkjieoikgpmaaE15
set_option linter.unusedVariables false
set_option linter.unusedSimpArgs false
namespace Go.Proofs.Ytekkjieoikgpmaa
open Go.RowKit
set_option maxHeartbeats 3200000
set_option maxRecDepth 1000000

theorem Enter_bad_some {X : Nat → Prop} {w : World} {g b sz : Nat} {F : ByteArray → Option EnvT} {now : ByteArray} {sv : Value} {L : List ByteArray} (h : EnvsAt X w g b F sz now sv L) {s : ByteArray} {x : EnvT} (hx : F s = some x) (hnb : nameB s = false) :
    Calls Try.prog 20 #[.pointer (some ⟨g, 0, none⟩), .string s] w fun e w' => e = .returned (.int .i64 6) ∧ Below w.heap.size w w' := by
  obtain ⟨c0, c1, c2⟩ := h.cells
  obtain ⟨csx, hKx, -, hlk⟩ := h.val hx
  obtain ⟨C, hC⟩ : ∃ C, C = csx.toArray := ⟨_, rfl⟩
  have hCl : C.size = 40 := by rw [hC]; have : csx.length = 40 := envK.len hKx; simpa using this
  have hC1 : C.all (·.oneCell') = true := by rw [hC]; exact all_oneCell_toArray (envK.one hKx)
  rw [← hC] at hlk
  clear hKx hC
  have hCs : (Try.prog.info? 29).map (·.size) = some C.size := by rw [size_env, hCl]
  have H := hide h
  have HX := hide hx
  have HCL := hide hCl
  have HC1 := hide hC1
  have HCS := hide hCs
  have hlen := fun ty => h.len ty
  have hdep := h.depth
  have hmost := h.most
  have HNB := hide hnb
  clear hnb
  obtain ⟨A, cap, rfl, -, -⟩ := h.stack.form
  clear h hx hCl hC1 hCs c1
  go_enter Try.func20, Try.ntmps20
  go_upto_region 4 with (first
    | refine wpList_store_row rfl 29 _ _ rfl w.heap.size C rfl rfl 29 _ (blk_new _ _) HCS.out (by rw [HCL.out]; rfl) HC1.out ?_
    | (go_at_call 51; refine (none_at _ _ _ c0).mono ?_; rintro e w' ⟨rfl, rfl⟩))
  refine wp_setRow (blk_new _ _) ?_
  intro W0 hb hk hsz
  have hbel : Below w.heap.size w W0 := ((Below.refl _ _).alloc (Nat.le_refl _) (.cells _ 29)).trans (hk.below (by simp) (fun i h => by omega))
  have HBEL := hide hbel
  have d2 := cell_stays hbel c2
  have d0 := cell_stays hbel c0
  clear hb hk hsz hbel c0 c2 hlk hlen
  go_wp2_with (first
    | (go_at_call 53
       refine (named_env s _).mono ?_
       rw [HNB.out]
       rintro e w1 ⟨rfl, q⟩
       have HH := hide (H.out.below (HBEL.out.trans (q.mono HBEL.out.size)))
       have hlen1 := fun ty => HH.out.len ty
       have e0 := cell_stays q d0
       have e2 := cell_stays q d2
       have HB1 := hide (HBEL.out.trans (q.mono HBEL.out.size))
       clear q))
  go_ret
  exact ⟨rfl, HB1.out⟩
theorem Enter_deep_some {X : Nat → Prop} {w : World} {g b sz : Nat} {F : ByteArray → Option EnvT} {now : ByteArray} {sv : Value} {L : List ByteArray} (h : EnvsAt X w g b F sz now sv L) {s : ByteArray} {x : EnvT} (hx : F s = some x) (hnb : nameB s = true) (hL : L.length = 20) :
    Calls Try.prog 20 #[.pointer (some ⟨g, 0, none⟩), .string s] w fun e w' => e = .returned (.int .i64 2) ∧ Below w.heap.size w w' := by
  obtain ⟨c0, c1, c2⟩ := h.cells
  obtain ⟨csx, hKx, -, hlk⟩ := h.val hx
  obtain ⟨C, hC⟩ : ∃ C, C = csx.toArray := ⟨_, rfl⟩
  have hCl : C.size = 40 := by rw [hC]; have : csx.length = 40 := envK.len hKx; simpa using this
  have hC1 : C.all (·.oneCell') = true := by rw [hC]; exact all_oneCell_toArray (envK.one hKx)
  rw [← hC] at hlk
  clear hKx hC
  have hCs : (Try.prog.info? 29).map (·.size) = some C.size := by rw [size_env, hCl]
  have H := hide h
  have HX := hide hx
  have HCL := hide hCl
  have HC1 := hide hC1
  have HCS := hide hCs
  have hlen := fun ty => h.len ty
  have hdep := h.depth
  have hmost := h.most
  have HNB := hide hnb
  clear hnb
  obtain ⟨A, cap, rfl, -, -⟩ := h.stack.form
  clear h hx hCl hC1 hCs c1
  go_enter Try.func20, Try.ntmps20
  go_upto_region 4 with (first
    | refine wpList_store_row rfl 29 _ _ rfl w.heap.size C rfl rfl 29 _ (blk_new _ _) HCS.out (by rw [HCL.out]; rfl) HC1.out ?_
    | (go_at_call 51; refine (none_at _ _ _ c0).mono ?_; rintro e w' ⟨rfl, rfl⟩))
  refine wp_setRow (blk_new _ _) ?_
  intro W0 hb hk hsz
  have hbel : Below w.heap.size w W0 := ((Below.refl _ _).alloc (Nat.le_refl _) (.cells _ 29)).trans (hk.below (by simp) (fun i h => by omega))
  have HBEL := hide hbel
  have d2 := cell_stays hbel c2
  have d0 := cell_stays hbel c0
  clear hb hk hsz hbel c0 c2 hlk hlen
  go_wp2_with (first
    | (go_at_call 53
       refine (named_env s _).mono ?_
       rw [HNB.out]
       rintro e w1 ⟨rfl, q⟩
       have HH := hide (H.out.below (HBEL.out.trans (q.mono HBEL.out.size)))
       have hlen1 := fun ty => HH.out.len ty
       have e0 := cell_stays q d0
       have e2 := cell_stays q d2
       have HB1 := hide (HBEL.out.trans (q.mono HBEL.out.size))
       clear q))
  go_ret
  exact ⟨rfl, HB1.out⟩
theorem Enter_bad_none {X : Nat → Prop} {w : World} {g b sz : Nat} {F : ByteArray → Option EnvT} {now : ByteArray} {sv : Value} {L : List ByteArray} (h : EnvsAt X w g b F sz now sv L) {s : ByteArray} (hsn : s.size ≤ 9223372036854775807) (hx : F s = none) (hnb : nameB s = false) :
    Calls Try.prog 20 #[.pointer (some ⟨g, 0, none⟩), .string s] w fun e w' => e = .returned (.int .i64 6) ∧ Below w.heap.size w w' := by
  obtain ⟨c0, c1, c2⟩ := h.cells
  have hlk := h.no_val hsn hx
  obtain ⟨C, hC⟩ : ∃ C, C = (zeroT.cells (.slice none 0 0) (.slice none 0 0)).toArray := ⟨_, rfl⟩
  have hCl : C.size = 40 := by rw [hC]; rfl
  have hC1 : C.all (·.oneCell') = true := by rw [hC]; exact env_one zeroT rfl rfl
  have hzv : zeroV = .agg C := by rw [hC]; rfl
  rw [hzv] at hlk
  clear hC hzv
  have hCs : (Try.prog.info? 29).map (·.size) = some C.size := by rw [size_env, hCl]
  have H := hide h
  have HX := hide hx
  have HCL := hide hCl
  have HC1 := hide hC1
  have HCS := hide hCs
  have hlen := fun ty => h.len ty
  have hdep := h.depth
  have hmost := h.most
  have HNB := hide hnb
  clear hnb
  obtain ⟨A, cap, rfl, -, -⟩ := h.stack.form
  clear h hx hCl hC1 hCs c1
  go_enter Try.func20, Try.ntmps20
  go_upto_region 4 with (first
    | refine wpList_store_row rfl 29 _ _ rfl w.heap.size C rfl rfl 29 _ (blk_new _ _) HCS.out (by rw [HCL.out]; rfl) HC1.out ?_
    | (go_at_call 51; refine (none_at _ _ _ c0).mono ?_; rintro e w' ⟨rfl, rfl⟩))
  refine wp_setRow (blk_new _ _) ?_
  intro W0 hb hk hsz
  have hbel : Below w.heap.size w W0 := ((Below.refl _ _).alloc (Nat.le_refl _) (.cells _ 29)).trans (hk.below (by simp) (fun i h => by omega))
  have HBEL := hide hbel
  have d2 := cell_stays hbel c2
  have d0 := cell_stays hbel c0
  clear hb hk hsz hbel c0 c2 hlk hlen
  go_wp2_with (first
    | (go_at_call 53
       refine (named_env s _).mono ?_
       rw [HNB.out]
       rintro e w1 ⟨rfl, q⟩
       have HH := hide (H.out.below (HBEL.out.trans (q.mono HBEL.out.size)))
       have hlen1 := fun ty => HH.out.len ty
       have e0 := cell_stays q d0
       have e2 := cell_stays q d2
       have HB1 := hide (HBEL.out.trans (q.mono HBEL.out.size))
       clear q))
  go_ret
  exact ⟨rfl, HB1.out⟩
theorem Enter_deep_none {X : Nat → Prop} {w : World} {g b sz : Nat} {F : ByteArray → Option EnvT} {now : ByteArray} {sv : Value} {L : List ByteArray} (h : EnvsAt X w g b F sz now sv L) {s : ByteArray} (hsn : s.size ≤ 9223372036854775807) (hx : F s = none) (hnb : nameB s = true) (hL : L.length = 20) :
    Calls Try.prog 20 #[.pointer (some ⟨g, 0, none⟩), .string s] w fun e w' => e = .returned (.int .i64 2) ∧ Below w.heap.size w w' := by
  obtain ⟨c0, c1, c2⟩ := h.cells
  have hlk := h.no_val hsn hx
  obtain ⟨C, hC⟩ : ∃ C, C = (zeroT.cells (.slice none 0 0) (.slice none 0 0)).toArray := ⟨_, rfl⟩
  have hCl : C.size = 40 := by rw [hC]; rfl
  have hC1 : C.all (·.oneCell') = true := by rw [hC]; exact env_one zeroT rfl rfl
  have hzv : zeroV = .agg C := by rw [hC]; rfl
  rw [hzv] at hlk
  clear hC hzv
  have hCs : (Try.prog.info? 29).map (·.size) = some C.size := by rw [size_env, hCl]
  have H := hide h
  have HX := hide hx
  have HCL := hide hCl
  have HC1 := hide hC1
  have HCS := hide hCs
  have hlen := fun ty => h.len ty
  have hdep := h.depth
  have hmost := h.most
  have HNB := hide hnb
  clear hnb
  obtain ⟨A, cap, rfl, -, -⟩ := h.stack.form
  clear h hx hCl hC1 hCs c1
  go_enter Try.func20, Try.ntmps20
  go_upto_region 4 with (first
    | refine wpList_store_row rfl 29 _ _ rfl w.heap.size C rfl rfl 29 _ (blk_new _ _) HCS.out (by rw [HCL.out]; rfl) HC1.out ?_
    | (go_at_call 51; refine (none_at _ _ _ c0).mono ?_; rintro e w' ⟨rfl, rfl⟩))
  refine wp_setRow (blk_new _ _) ?_
  intro W0 hb hk hsz
  have hbel : Below w.heap.size w W0 := ((Below.refl _ _).alloc (Nat.le_refl _) (.cells _ 29)).trans (hk.below (by simp) (fun i h => by omega))
  have HBEL := hide hbel
  have d2 := cell_stays hbel c2
  have d0 := cell_stays hbel c0
  clear hb hk hsz hbel c0 c2 hlk hlen
  go_wp2_with (first
    | (go_at_call 53
       refine (named_env s _).mono ?_
       rw [HNB.out]
       rintro e w1 ⟨rfl, q⟩
       have HH := hide (H.out.below (HBEL.out.trans (q.mono HBEL.out.size)))
       have hlen1 := fun ty => HH.out.len ty
       have e0 := cell_stays q d0
       have e2 := cell_stays q d2
       have HB1 := hide (HBEL.out.trans (q.mono HBEL.out.size))
       clear q))
  go_ret
  exact ⟨rfl, HB1.out⟩
theorem Enter_full {X : Nat → Prop} {w : World} {g b sz : Nat} {F : ByteArray → Option EnvT} {now : ByteArray} {sv : Value} {L : List ByteArray} (h : EnvsAt X w g b F sz now sv L) {s : ByteArray} (hsn : s.size ≤ 9223372036854775807) (hx : F s = none) (hnb : nameB s = true) (hL : L.length < 20) (h50 : sz = 50) :
    Calls Try.prog 20 #[.pointer (some ⟨g, 0, none⟩), .string s] w fun e w' => e = .returned (.int .i64 9) ∧ Below w.heap.size w w' := by
  obtain ⟨c0, c1, c2⟩ := h.cells
  have hlk := h.no_val hsn hx
  obtain ⟨C, hC⟩ : ∃ C, C = (zeroT.cells (.slice none 0 0) (.slice none 0 0)).toArray := ⟨_, rfl⟩
  have hCl : C.size = 40 := by rw [hC]; rfl
  have hC1 : C.all (·.oneCell') = true := by rw [hC]; exact env_one zeroT rfl rfl
  have hzv : zeroV = .agg C := by rw [hC]; rfl
  rw [hzv] at hlk
  clear hC hzv
  have hCs : (Try.prog.info? 29).map (·.size) = some C.size := by rw [size_env, hCl]
  have H := hide h
  have HX := hide hx
  have HCL := hide hCl
  have HC1 := hide hC1
  have HCS := hide hCs
  have hlen := fun ty => h.len ty
  have hdep := h.depth
  have hmost := h.most
  have HNB := hide hnb
  clear hnb
  obtain ⟨A, cap, rfl, -, -⟩ := h.stack.form
  clear h hx hCl hC1 hCs c1
  go_enter Try.func20, Try.ntmps20
  go_upto_region 4 with (first
    | refine wpList_store_row rfl 29 _ _ rfl w.heap.size C rfl rfl 29 _ (blk_new _ _) HCS.out (by rw [HCL.out]; rfl) HC1.out ?_
    | (go_at_call 51; refine (none_at _ _ _ c0).mono ?_; rintro e w' ⟨rfl, rfl⟩))
  refine wp_setRow (blk_new _ _) ?_
  intro W0 hb hk hsz
  have hbel : Below w.heap.size w W0 := ((Below.refl _ _).alloc (Nat.le_refl _) (.cells _ 29)).trans (hk.below (by simp) (fun i h => by omega))
  have HBEL := hide hbel
  have d2 := cell_stays hbel c2
  have d0 := cell_stays hbel c0
  clear hb hk hsz hbel c0 c2 hlk hlen
  go_wp2_with (first
    | (go_at_call 53
       refine (named_env s _).mono ?_
       rw [HNB.out]
       rintro e w1 ⟨rfl, q⟩
       have HH := hide (H.out.below (HBEL.out.trans (q.mono HBEL.out.size)))
       have hlen1 := fun ty => HH.out.len ty
       have e0 := cell_stays q d0
       have e2 := cell_stays q d2
       have HB1 := hide (HBEL.out.trans (q.mono HBEL.out.size))
       clear q))
  go_ret
  exact ⟨rfl, HB1.out⟩
end Go.Proofs.Ytekkjieoikgpmaa
