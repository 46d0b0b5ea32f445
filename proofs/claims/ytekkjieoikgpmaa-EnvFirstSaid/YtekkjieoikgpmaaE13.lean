/- The environments: Put, where the environment is one. -/
import Derived.Test.YtekkjieoikgpmaaE12
set_option linter.unusedVariables false
set_option linter.unusedSimpArgs false
namespace Go.Proofs.Ytekkjieoikgpmaa
open Go.RowKit
set_option maxHeartbeats 3200000
set_option maxRecDepth 1000000

theorem Put_ok {X : Nat → Prop} {w : World} {g b sz : Nat} {F : ByteArray → Option EnvT} {now : ByteArray} {sv : Value} {L : List ByteArray} (h : EnvsAt X w g b F sz now sv L) {x : EnvT} {cs : List Value} {ok : Nat → Prop} (hK : envK.K w ok x cs) (hs : x.small) (hv : validE x = true) :
    Calls Try.prog 19 #[.pointer (some ⟨g, 0, none⟩), .agg cs.toArray] w fun e w' => e = .returned (.int .i64 0) ∧ EnvsAt X w' g b (updT F now x) sz now sv L ∧ Kept (fun k => k = b) w w' := by
  obtain ⟨c0, c1, c2⟩ := h.cells
  obtain ⟨u, v, rfl, -, -⟩ := id hK
  have H := hide h
  have HK := hide hK
  have HS := hide hs
  have HV := hide hv
  clear h hK hs hv c2
  go_enter Try.func19, Try.ntmps19
  go_upto_region 1 with fail
  refine wp_one ?_
  intro W0 hb hbel hsz
  have d0 := cell_stays hbel c0
  have HB := hide hb
  have HBEL := hide hbel
  clear hb hbel c0 c1
  go_upto_region 3 with (first
    | refine wpList_load_g (by rfl) 29 _ rfl w.heap.size rfl 29 _ (0, 0) _ HB.out Try.underlying29 rfl (by rw [size_env]; rfl) ?_
    | (go_at_call 51; refine (none_at _ _ _ d0).mono ?_; rintro e w' ⟨rfl, rfl⟩)
    | (go_at_call 14; refine (Valid_env x _ _ _ (Kind.below HK.out HBEL.out) HS.out).mono ?_; rw [HV.out]; rintro e w2 ⟨rfl, q⟩; have Q := hide q; clear q))
  have hq : Below w.heap.size w w2.drew := HBEL.out.trans ((Q.out.drew).mono HBEL.out.size)
  have HH := hide (H.out.below hq)
  obtain ⟨V, V1, V2⟩ := H.out.map
  have V1 := hide V1
  have V2 := hide V2
  have hb2 := blk_below HB.out (Q.out.drew) (blk_lt HB.out)
  obtain ⟨xx, hxx⟩ := H.out.here
  have hns : now.size ≤ 20 := H.out.named _ _ hxx
  have HNS := hide hns
  have hq0 : (fun w' => w'.cell? ⟨g, 0, none⟩ = some (.map (some b)) ∧ w'.cell? ⟨g, 1, none⟩ = some (.string now) ∧ w'.heap[w.heap.size]? = some (.cells (x.cells u v).toArray 29 (0, 0))) w2.drew := ⟨HH.out.cells.1, HH.out.cells.2.1, hb2⟩
  have HXX := hide hxx
  have HQ0 := hide hq0
  have HQ := hide hq
  have HB2 := hide hb2
  clear hb2 HB hq hns hxx hq0 d0
  refine wp_region_held_drew (S := (fun w' => w'.cell? ⟨g, 0, none⟩ = some (.map (some b)) ∧ w'.cell? ⟨g, 1, none⟩ = some (.string now) ∧ w'.heap[w.heap.size]? = some (.cells (x.cells u v).toArray 29 (0, 0)))) (by kernel_rfl) HQ0.out (fun hHeld => ?_)
  refine wpAnyH_take (i := 0) (v := ?_) rfl (by kernel_rfl) (by kernel_rfl) (by kernel_rfl) (fun _ _ _ h => h) (Or.inl ⟨by rfl, ?_⟩) (by assumption) ?_
  rotate_left
  · intro wq hSw
    try dsimp only at hSw
    go_simp
    try with_reducible rfl
  simp only [Act.put, List.setIfInBounds_toArray, List.set_cons_zero, List.set_cons_succ]
  refine wpAnyH_take (i := 1) (v := ?_) rfl (by kernel_rfl) (by kernel_rfl) (by kernel_rfl) (fun _ _ _ h => h) (Or.inl ⟨by rfl, ?_⟩) (by assumption) ?_
  rotate_left
  · intro wq hSw
    try dsimp only at hSw
    go_simp
    try with_reducible rfl
  simp only [Act.put, List.setIfInBounds_toArray, List.set_cons_zero, List.set_cons_succ]
  refine wpAnyH_take (i := 2) (v := ?_) rfl (by kernel_rfl) (by kernel_rfl) (by kernel_rfl) (fun _ _ _ h => h) (Or.inl ⟨by rfl, ?_⟩) (by assumption) ?_
  rotate_left
  · intro wq hSw
    try dsimp only at hSw
    go_simp
    try with_reducible rfl
  simp only [Act.put, List.setIfInBounds_toArray, List.set_cons_zero, List.set_cons_succ]
  refine wpAnyH_take (i := 3) (v := ?_) rfl (by kernel_rfl) (by kernel_rfl) (by kernel_rfl) (fun _ _ _ h => h) (Or.inl ⟨by rfl, ?_⟩) (by assumption) ?_
  rotate_left
  · intro wq hSw
    try dsimp only at hSw
    go_simp
    try with_reducible rfl
  simp only [Act.put, List.setIfInBounds_toArray, List.set_cons_zero, List.set_cons_succ]
  refine wpAnyH_take (i := 4) (v := ?_) rfl (by kernel_rfl) (by kernel_rfl) (by kernel_rfl) (fun _ _ _ h => h) (Or.inl ⟨by rfl, ?_⟩) (by assumption) ?_
  rotate_left
  · intro wq hSw
    try dsimp only at hSw
    go_simp
    try with_reducible rfl
  simp only [Act.put, List.setIfInBounds_toArray, List.set_cons_zero, List.set_cons_succ]
  refine wpAnyH_take (i := 5) (v := ?_) rfl (by kernel_rfl) (by kernel_rfl) (by kernel_rfl) (fun _ _ _ h => h) (Or.inl ⟨by rfl, ?_⟩) (by assumption) ?_
  rotate_left
  · intro wq hSw
    try dsimp only at hSw
    go_simp
    try with_reducible rfl
  simp only [Act.put, List.setIfInBounds_toArray, List.set_cons_zero, List.set_cons_succ]
  refine wpAnyH_take (i := 6) (v := ?_) rfl (by kernel_rfl) (by kernel_rfl) (by kernel_rfl) (fun _ _ _ h => h) (Or.inl ⟨by rfl, ?_⟩) (by assumption) ?_
  rotate_left
  · intro wq hSw
    try dsimp only at hSw
    go_simp
    try with_reducible rfl
  simp only [Act.put, List.setIfInBounds_toArray, List.set_cons_zero, List.set_cons_succ]
  refine wpAnyH_take (i := 7) (v := ?_) rfl (by kernel_rfl) (by kernel_rfl) (by kernel_rfl) (fun _ _ _ h => h) (Or.inl ⟨by rfl, ?_⟩) (by assumption) ?_
  rotate_left
  · intro wq hSw
    try dsimp only at hSw
    go_simp
    try with_reducible rfl
  simp only [Act.put, List.setIfInBounds_toArray, List.set_cons_zero, List.set_cons_succ]
  refine wpAnyH_take (i := 8) (oi := { dst := some 20, op := Op.load 29 (Operand.tmp 3), type := 29, pos := "env.go:110", after := #[], guard := none }) (v := .agg (x.cells u v).toArray) rfl (by kernel_rfl) (by kernel_rfl) (by kernel_rfl) (fun _ _ _ h => h) (yieldsIf_load_row (by rfl) 29 (Operand.tmp 3) rfl w.heap.size (by go_simp) 29 (x.cells u v).toArray (0, 0) _ (fun w' h => h.2.2) Try.underlying29 rfl (by rw [size_env]; rfl)) (by assumption) ?_
  simp only [Act.put, List.setIfInBounds_toArray, List.set_cons_zero, List.set_cons_succ]
  refine wpAnyH_ready (rs := [9]) (by kernel_rfl) (by simp) (AllReadyH.cons rfl (fun K hK => ?_) AllReadyH.nil)
  go_simp
  refine (own_any x _ _ _ (Kind.below HK.out HQ.out) HS.out).mono ?_
  rintro e w3 ⟨cs3, rfl, q1, q2⟩
  have m1 := (V1.out.below HQ.out).below q2
  obtain ⟨w4, hrun, m3, m4⟩ := m1.put (s := now) (by have := HNS.out; omega) (by have := HH.out.most; omega) (.agg cs3.toArray)
  have hb3 := blk_below HB2.out q2 (blk_lt HB2.out)
  have HQ3 := hide (show (fun w' => w'.cell? ⟨g, 0, none⟩ = some (.map (some b)) ∧ w'.cell? ⟨g, 1, none⟩ = some (.string now) ∧ w'.heap[w.heap.size]? = some (.cells (x.cells u v).toArray 29 (0, 0))) w3 from ⟨(HH.out.below q2).cells.1, (HH.out.below q2).cells.2.1, hb3⟩)
  have hgb : g ≠ b := H.out.gb
  have hbl : b < w.heap.size := H.out.mut_lt b (.inr (.inl rfl))
  have hb4 := blk_grown hb3 m4 (fun e => by have := Option.some.inj e; omega)
  have hg4 := blk_grown (HH.out.below q2).blk m4 (fun e => hgb (Option.some.inj e))
  have HQ4 := hide (show (fun w' => w'.cell? ⟨g, 0, none⟩ = some (.map (some b)) ∧ w'.cell? ⟨g, 1, none⟩ = some (.string now) ∧ w'.heap[w.heap.size]? = some (.cells (x.cells u v).toArray 29 (0, 0))) w4 from ⟨by rw [blk_cell hg4]; rfl, by rw [blk_cell hg4]; rfl, hb4⟩)
  have M1 := hide m1
  have M3 := hide m3
  have M4 := hide m4
  have Q1 := hide q1
  have Q2 := hide q2
  have HRUN := hide hrun
  clear q1 q2 m1 m3 m4 hb3 hgb hbl hb4 hg4 hrun
  go_wp2_with fail
  refine hK.out _ _ HQ3.out (fun hHeld => ?_)
  clear hK K
  try simp only [Act.put, List.setIfInBounds_toArray, List.set_cons_zero, List.set_cons_succ]
  have hrun := HRUN.out
  refine wpAnyH_ready (rs := [10]) (by kernel_rfl) (by simp) (AllReadyH.cons rfl (fun K hK => ?_) AllReadyH.nil)
  go_simp
  refine hK.out _ _ HQ4.out (fun hHeld => ?_)
  clear hK K hrun
  refine wpAnyH_done (by kernel_rfl) ?_ _
  go_wp2_with fail
  go_ret
  have hvs : (V now).isSome = true := by
    obtain ⟨cs0, h1, -⟩ := (V2.out now).2 _ HXX.out
    rw [h1]; rfl
  have hq3 : Below w.heap.size w w3 := HQ.out.trans (Q2.out.mono HQ.out.size)
  have hk : Kept (fun k => k = b) w w4 := (Kept.of_below (S := fun k => k = b) hq3).trans (Kept.of_grown M4.out) (fun _ _ h => h) (fun i _ h => (Option.some.inj h).symm)
  refine ⟨rfl, ?_, hk⟩
  have hsz0 : w.heap.size ≤ w2.drew.heap.size := HQ.out.size
  have hbl : b < w.heap.size := H.out.mut_lt b (.inr (.inl rfl))
  have hm4 := M3.out
  rw [hvs, if_pos rfl] at hm4
  exact H.out.set hk V2.out hm4 (envK.weaken (fun k hk hm => by rcases hm with hm | hm; have := H.out.mut_lt k hm; omega; have := H.out.xlt k hm; omega) (Kind.step Q1.out (fun k hk1 hk2 => M4.out.block k hk2 (fun e => by have := Option.some.inj e; omega)))) HS.out HNS.out H.out.most
end Go.Proofs.Ytekkjieoikgpmaa
