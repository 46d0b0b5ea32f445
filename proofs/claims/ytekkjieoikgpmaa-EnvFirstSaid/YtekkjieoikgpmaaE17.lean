/- The environments: Enter where it is let. -/
import Derived.Test.YtekkjieoikgpmaaE15
set_option linter.unusedVariables false
set_option linter.unusedSimpArgs false
namespace Go.Proofs.Ytekkjieoikgpmaa
open Go.RowKit
set_option maxHeartbeats 3200000
set_option maxRecDepth 1000000

theorem Enter_old {X : Nat → Prop} {w : World} {g b sz : Nat} {F : ByteArray → Option EnvT} {now : ByteArray} {sv : Value} {L : List ByteArray} (h : EnvsAt X w g b F sz now sv L) {s : ByteArray} {x : EnvT} (hx : F s = some x) (hnb : nameB s = true) (hL : L.length < 20) :
    Calls Try.prog 20 #[.pointer (some ⟨g, 0, none⟩), .string s] w fun e w' => e = .returned (.int .i64 0) ∧ ∃ sv', EnvsAt X w' g b F sz s sv' (L ++ [now]) ∧ Kept (Mut g b sv) w w' ∧ (∀ k, sv'.ownBlock = some k → sv.ownBlock = some k ∨ w.heap.size ≤ k) := by
  obtain ⟨c0, c1, c2⟩ := h.cells
  obtain ⟨csx, hKx, -, hlk⟩ := h.val hx
  obtain ⟨C, hC⟩ : ∃ C, C = csx.toArray := ⟨_, rfl⟩
  have hCl : C.size = 40 := by rw [hC]; have : csx.length = 40 := envK.len hKx; simpa using this
  have hC1 : C.all (·.oneCell') = true := by rw [hC]; exact all_oneCell_toArray (envK.one hKx)
  rw [← hC] at hlk
  clear hKx hC
  have hCs : (Try.prog.info? 29).map (·.size) = some C.size := by rw [size_env, hCl]
  have H := hide h
  have HX := hide hx
  have HCL := hide hCl
  have HC1 := hide hC1
  have HCS := hide hCs
  have hlen := fun ty => h.len ty
  have hdep := h.depth
  have hmost := h.most
  have HNB := hide hnb
  clear hnb
  obtain ⟨A, cap, rfl, -, -⟩ := h.stack.form
  clear h hx hCl hC1 hCs c1
  go_enter Try.func20, Try.ntmps20
  go_upto_region 4 with (first
    | refine wpList_store_row rfl 29 _ _ rfl w.heap.size C rfl rfl 29 _ (blk_new _ _) HCS.out (by rw [HCL.out]; rfl) HC1.out ?_
    | (go_at_call 51; refine (none_at _ _ _ c0).mono ?_; rintro e w' ⟨rfl, rfl⟩))
  refine wp_setRow (blk_new _ _) ?_
  intro W0 hb hk hsz
  have hbel : Below w.heap.size w W0 := ((Below.refl _ _).alloc (Nat.le_refl _) (.cells _ 29)).trans (hk.below (by simp) (fun i h => by omega))
  have HBEL := hide hbel
  have d2 := cell_stays hbel c2
  have d0 := cell_stays hbel c0
  clear hb hk hsz hbel c0 c2 hlk hlen
  go_upto_region 12 with (first
    | (go_at_call 53
       refine (named_env s _).mono ?_
       rw [HNB.out]
       rintro e w1 ⟨rfl, q⟩
       have HH := hide (H.out.below (HBEL.out.trans (q.mono HBEL.out.size)))
       have hlen1 := fun ty => HH.out.len ty
       have e0 := cell_stays q d0
       have e2 := cell_stays q d2
       have HB1 := hide (HBEL.out.trans (q.mono HBEL.out.size))
       clear q))
  generalize w1 = w5 at HH e0 e2 HB1 hlen1 ⊢
  have HE := HH
  have HIS := hide (show ∃ y, F s = some y from ⟨x, HX.out⟩)
  have HK5 := hide (show Kept (Mut g b (.slice A L.length cap)) w w5 from Kept.of_below HB1.out)
  clear HH e0 hlen1 d0 d2
  obtain ⟨f0, f1, f2⟩ := HE.out.cells
  have hstk : Stk w5.drew (.slice A L.length cap) L := HE.out.stack.step (fun k hk => rfl)
  obtain ⟨v', w6, hrun, hst6, hgr6, hv6⟩ := hstk.push now (by omega) 60
  obtain ⟨A6, c6, rfl, -, -⟩ := hst6.form
  obtain ⟨n6, hn6⟩ : ∃ n6, n6 = (L ++ [now]).length := ⟨_, rfl⟩
  rw [← hn6] at hrun hst6 hv6
  clear hn6
  have hb6 : w6.heap[g]? = some (.cells #[.map (some b), .string now, .slice A L.length cap] 67 (0, 0)) := (hgr6.block g HE.out.lt (fun e => HE.out.gs e.symm)).trans HE.out.blk
  have HB6 := hide hb6
  have y2 : (w5.alloc (.cells #[.string now] 9)).cell? ⟨g, 2, none⟩ = some (.slice A L.length cap) := cell_stays ((Below.refl _ _).alloc (Nat.le_refl _) _) f2
  have HST6 := hide hst6
  have HGR6 := hide hgr6
  have HV6 := hide hv6
  have z1 : w6.cell? ⟨g, 2, none⟩ = some (.slice A L.length cap) := by rw [blk_cell hb6]; rfl
  have z2 : w6.frozen? ⟨g, 2, none⟩ = false := blk_frozen hb6
  have hb7 := blk_set hb6 2 (.slice A6 n6 c6)
  have z3 : (w6.setCell ⟨g, 2, none⟩ (.slice A6 n6 c6)).cell? ⟨g, 1, none⟩ = some (.string now) := by rw [blk_cell hb7]; rfl
  have z4 : (w6.setCell ⟨g, 2, none⟩ (.slice A6 n6 c6)).frozen? ⟨g, 1, none⟩ = false := blk_frozen hb7
  have hb8 := blk_set hb7 1 (.string s)
  have HB8 := hide hb8
  clear hb6 hst6 hgr6 hv6 hb7 hb8 hstk
  go_region_law (refine step_append rfl _ _ 60 rfl (.slice A L.length cap) _ (.slice A6 n6 c6) rfl rfl hrun ?_)
  all_goals go_wp2_with fail
  all_goals go_ret
  all_goals
    have hk5 : Kept (fun k => k = g ∨ (Value.slice A L.length cap).ownBlock = some k) w5 ((w6.setCell ⟨g, 2, none⟩ (.slice A6 n6 c6)).setCell ⟨g, 1, none⟩ (.string s)) :=
      (((Kept.refl _ w5).trans (Kept.of_grown (w := w5) (w' := w6) ⟨HGR6.out.os, HGR6.out.tape, HGR6.out.output, HGR6.out.size, HGR6.out.block⟩) (fun _ _ h => h) (fun i _ h => .inr h)).setCell (p := ⟨g, 2, none⟩) (.inl (.inl rfl)) _).setCell (p := ⟨g, 1, none⟩) (.inl (.inl rfl)) _
    have hvk : ∀ k, (Value.slice A6 n6 c6).ownBlock = some k → (Value.slice A L.length cap).ownBlock = some k ∨ w5.heap.size ≤ k := fun k hk => by
      rcases HV6.out with e | ⟨q, e, hq⟩
      · exact .inl (by rw [← e]; exact hk)
      · have : q = k := by rw [e] at hk; exact Option.some.inj hk
        have hq2 : w5.heap.size < q := hq
        exact .inr (by omega)
    have hgv : (Value.slice A6 n6 c6).ownBlock ≠ some g := fun e => by
      rcases hvk g e with e | e
      · exact HE.out.gs e
      · have := HE.out.lt; omega
    have hmv := HE.out.move hk5 HB8.out (HST6.out.step (fun k hk => (Below.heap_setCell _ ⟨g, 1, none⟩ _ k (by rintro rfl; exact hgv hk)).trans (Below.heap_setCell _ ⟨g, 2, none⟩ _ k (by rintro rfl; exact hgv hk)))) hvk HIS.out
      (fun t ht => by
        rcases List.mem_append.1 ht with ht | ht
        · exact HE.out.left t ht
        · rw [List.mem_singleton.1 ht]; exact HE.out.here) (by rw [List.length_append, List.length_singleton]; omega)
    refine ⟨rfl, .slice A6 n6 c6, hmv, HK5.out.trans hk5 (fun _ _ h => h) (fun i hi e => e.elim .inl (fun e => .inr (.inr e))), fun k hk => (hvk k hk).imp id (fun e => Nat.le_trans HK5.out.size e)⟩
theorem Enter_new {X : Nat → Prop} {w : World} {g b sz : Nat} {F : ByteArray → Option EnvT} {now : ByteArray} {sv : Value} {L : List ByteArray} (h : EnvsAt X w g b F sz now sv L) {s : ByteArray} (hsn : s.size ≤ 9223372036854775807) (hx : F s = none) (hnb : nameB s = true) (hL : L.length < 20) (h50 : sz < 50) :
    Calls Try.prog 20 #[.pointer (some ⟨g, 0, none⟩), .string s] w fun e w' => e = .returned (.int .i64 0) ∧ ∃ sv', EnvsAt X w' g b (updT F s firstT) (sz + 1) s sv' (L ++ [now]) ∧ Kept (Mut g b sv) w w' ∧ (∀ k, sv'.ownBlock = some k → sv.ownBlock = some k ∨ w.heap.size ≤ k) := by
  obtain ⟨c0, c1, c2⟩ := h.cells
  have hlk := h.no_val hsn hx
  obtain ⟨C, hC⟩ : ∃ C, C = (zeroT.cells (.slice none 0 0) (.slice none 0 0)).toArray := ⟨_, rfl⟩
  have hCl : C.size = 40 := by rw [hC]; rfl
  have hC1 : C.all (·.oneCell') = true := by rw [hC]; exact env_one zeroT rfl rfl
  have hzv : zeroV = .agg C := by rw [hC]; rfl
  rw [hzv] at hlk
  clear hC hzv
  have hCs : (Try.prog.info? 29).map (·.size) = some C.size := by rw [size_env, hCl]
  have H := hide h
  have HX := hide hx
  have HCL := hide hCl
  have HC1 := hide hC1
  have HCS := hide hCs
  have hlen := fun ty => h.len ty
  have hdep := h.depth
  have hmost := h.most
  have HNB := hide hnb
  clear hnb
  obtain ⟨A, cap, rfl, -, -⟩ := h.stack.form
  clear h hx hCl hC1 hCs c1
  go_enter Try.func20, Try.ntmps20
  go_upto_region 4 with (first
    | refine wpList_store_row rfl 29 _ _ rfl w.heap.size C rfl rfl 29 _ (blk_new _ _) HCS.out (by rw [HCL.out]; rfl) HC1.out ?_
    | (go_at_call 51; refine (none_at _ _ _ c0).mono ?_; rintro e w' ⟨rfl, rfl⟩))
  refine wp_setRow (blk_new _ _) ?_
  intro W0 hb hk hsz
  have hbel : Below w.heap.size w W0 := ((Below.refl _ _).alloc (Nat.le_refl _) (.cells _ 29)).trans (hk.below (by simp) (fun i h => by omega))
  have HBEL := hide hbel
  have d2 := cell_stays hbel c2
  have d0 := cell_stays hbel c0
  clear hb hk hsz hbel c0 c2 hlk hlen
  go_upto_region 11 with (first
    | (go_at_call 53
       refine (named_env s _).mono ?_
       rw [HNB.out]
       rintro e w1 ⟨rfl, q⟩
       have HH := hide (H.out.below (HBEL.out.trans (q.mono HBEL.out.size)))
       have hlen1 := fun ty => HH.out.len ty
       have e0 := cell_stays q d0
       have e2 := cell_stays q d2
       have HB1 := hide (HBEL.out.trans (q.mono HBEL.out.size))
       clear q))
  have hsn2 : s.size ≤ 20 := by
    have h1 := HNB.out
    unfold nameB textB at h1
    simp at h1
    omega
  have HSN := hide hsn2
  obtain ⟨V, V1, V2⟩ := HH.out.map
  have hvn : V s = none := (V2 s).1 HX.out
  have hS0 : (fun w' : World => w'.cell? ⟨g, 0, none⟩ = some (.map (some b))) w1.drew := e0
  have HS0 := hide hS0
  have V2 := hide V2
  have V1 := hide V1
  have HVN := hide hvn
  clear hS0 hvn hsn2 e2 hlen1 d0 d2
  go_region_held3 (fun w' => w'.cell? ⟨g, 0, none⟩ = some (.map (some b))) (first | exact HS0.out | exact HS3.out | exact HS4.out)
    (first
      | (go_at_call 12
         refine (First_any _).mono ?_
         rintro e w3 ⟨rfl, q⟩
         have hq : Below w1.heap.size w1 w3 := ((Below.refl w1.heap.size w1).drew).trans (q.mono (Nat.le_refl _))
         obtain ⟨w4, hrun, m3, m4⟩ := (V1.out.below hq).put (s := s) (by omega) (by omega) (.agg firstCs.toArray)
         have hgb : g ≠ b := HH.out.gb
         have hb3 := (HH.out.below hq).blk
         have hb4 := blk_grown hb3 m4 (fun e => hgb (Option.some.inj e))
         have HS3 := hide (show w3.cell? ⟨g, 0, none⟩ = some (.map (some b)) from by rw [blk_cell hb3]; rfl)
         have HS4 := hide (show w4.cell? ⟨g, 0, none⟩ = some (.map (some b)) from by rw [blk_cell hb4]; rfl)
         have HQ := hide hq
         have M3 := hide m3
         have M4 := hide m4
         clear q hq m3 m4 hgb hb3 hb4))
  have hk4 : Kept (fun k => k = b) w1 w4 := (Kept.of_below (S := fun k => k = b) HQ.out).trans (Kept.of_grown M4.out) (fun _ _ h => h) (fun i _ h => (Option.some.inj h).symm)
  have hm4 := M3.out
  rw [HVN.out] at hm4
  simp only [Option.isSome_none, Bool.false_eq_true, if_false] at hm4
  have hE := HH.out.set (s := s) (x := firstT) (cs := firstCs) hk4 V2.out hm4 (first_K _ _) first_small HSN.out (by omega)
  have HE := hide hE
  have HIS := hide (show ∃ y, updT F s firstT s = some y from ⟨_, updT_same _ _ _⟩)
  have HK5 := hide (show Kept (Mut g b (.slice A L.length cap)) w w4 from (Kept.of_below HB1.out).trans hk4 (fun _ _ h => h) (fun i _ e => .inr (.inl e)))
  clear hk4 hm4 hE M3 M4 V1 V2 HH HS0 HS3 HS4 e0 HVN
  generalize w4 = w5 at HE HK5 ⊢
  go_upto_region 12 with fail
  obtain ⟨f0, f1, f2⟩ := HE.out.cells
  have hstk : Stk w5.drew (.slice A L.length cap) L := HE.out.stack.step (fun k hk => rfl)
  obtain ⟨v', w6, hrun, hst6, hgr6, hv6⟩ := hstk.push now (by omega) 60
  obtain ⟨A6, c6, rfl, -, -⟩ := hst6.form
  obtain ⟨n6, hn6⟩ : ∃ n6, n6 = (L ++ [now]).length := ⟨_, rfl⟩
  rw [← hn6] at hrun hst6 hv6
  clear hn6
  have hb6 : w6.heap[g]? = some (.cells #[.map (some b), .string now, .slice A L.length cap] 67 (0, 0)) := (hgr6.block g HE.out.lt (fun e => HE.out.gs e.symm)).trans HE.out.blk
  have HB6 := hide hb6
  have y2 : (w5.alloc (.cells #[.string now] 9)).cell? ⟨g, 2, none⟩ = some (.slice A L.length cap) := cell_stays ((Below.refl _ _).alloc (Nat.le_refl _) _) f2
  have HST6 := hide hst6
  have HGR6 := hide hgr6
  have HV6 := hide hv6
  have z1 : w6.cell? ⟨g, 2, none⟩ = some (.slice A L.length cap) := by rw [blk_cell hb6]; rfl
  have z2 : w6.frozen? ⟨g, 2, none⟩ = false := blk_frozen hb6
  have hb7 := blk_set hb6 2 (.slice A6 n6 c6)
  have z3 : (w6.setCell ⟨g, 2, none⟩ (.slice A6 n6 c6)).cell? ⟨g, 1, none⟩ = some (.string now) := by rw [blk_cell hb7]; rfl
  have z4 : (w6.setCell ⟨g, 2, none⟩ (.slice A6 n6 c6)).frozen? ⟨g, 1, none⟩ = false := blk_frozen hb7
  have hb8 := blk_set hb7 1 (.string s)
  have HB8 := hide hb8
  clear hb6 hst6 hgr6 hv6 hb7 hb8 hstk
  go_region_law (refine step_append rfl _ _ 60 rfl (.slice A L.length cap) _ (.slice A6 n6 c6) rfl rfl hrun ?_)
  all_goals go_wp2_with fail
  all_goals go_ret
  all_goals
    have hk5 : Kept (fun k => k = g ∨ (Value.slice A L.length cap).ownBlock = some k) w5 ((w6.setCell ⟨g, 2, none⟩ (.slice A6 n6 c6)).setCell ⟨g, 1, none⟩ (.string s)) :=
      (((Kept.refl _ w5).trans (Kept.of_grown (w := w5) (w' := w6) ⟨HGR6.out.os, HGR6.out.tape, HGR6.out.output, HGR6.out.size, HGR6.out.block⟩) (fun _ _ h => h) (fun i _ h => .inr h)).setCell (p := ⟨g, 2, none⟩) (.inl (.inl rfl)) _).setCell (p := ⟨g, 1, none⟩) (.inl (.inl rfl)) _
    have hvk : ∀ k, (Value.slice A6 n6 c6).ownBlock = some k → (Value.slice A L.length cap).ownBlock = some k ∨ w5.heap.size ≤ k := fun k hk => by
      rcases HV6.out with e | ⟨q, e, hq⟩
      · exact .inl (by rw [← e]; exact hk)
      · have : q = k := by rw [e] at hk; exact Option.some.inj hk
        have hq2 : w5.heap.size < q := hq
        exact .inr (by omega)
    have hgv : (Value.slice A6 n6 c6).ownBlock ≠ some g := fun e => by
      rcases hvk g e with e | e
      · exact HE.out.gs e
      · have := HE.out.lt; omega
    have hmv := HE.out.move hk5 HB8.out (HST6.out.step (fun k hk => (Below.heap_setCell _ ⟨g, 1, none⟩ _ k (by rintro rfl; exact hgv hk)).trans (Below.heap_setCell _ ⟨g, 2, none⟩ _ k (by rintro rfl; exact hgv hk)))) hvk HIS.out
      (fun t ht => by
        rcases List.mem_append.1 ht with ht | ht
        · exact HE.out.left t ht
        · rw [List.mem_singleton.1 ht]; exact HE.out.here) (by rw [List.length_append, List.length_singleton]; omega)
    refine ⟨rfl, .slice A6 n6 c6, hmv, HK5.out.trans hk5 (fun _ _ h => h) (fun i hi e => e.elim .inl (fun e => .inr (.inr e))), fun k hk => (hvk k hk).imp id (fun e => Nat.le_trans HK5.out.size e)⟩
end Go.Proofs.Ytekkjieoikgpmaa
