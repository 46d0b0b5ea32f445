/- Stops for the reference: frisketlaw12.As. -/
import Derived.Test.YtekkjieoikgpmaaE32
import Derived.Test.YtekkjieoikgpmaaE40
set_option linter.unusedVariables false
set_option linter.unusedSimpArgs false
namespace Go.Proofs.Ytekkjieoikgpmaa
open Go.RowKit
set_option maxHeartbeats 3200000
set_option maxRecDepth 1000000

theorem info_rstop : (Try.prog.info? 113).map (fun i => (i.zero, i.size, i.bytes)) = some (some (.agg #[.int .i64 0, .int .u8 0]), 2, 16) := by kernel_rfl
theorem size_rstops : (Try.prog.info? 38).map (·.size) = some 2 := by kernel_rfl
theorem As12_any (A : Option Addr) (c : Nat) (L : List StopT) (every : Int) (ok : Nat → Prop) (w : World) (hr : stopK.Rd w ok A L.length L) (hn : L.length ≤ 1000000000000) :
    Calls Try.prog 31 #[.agg #[.slice A L.length c, .int .i64 every]] w fun e w' => ∃ u, e = .returned (.agg #[u, .int .i64 every]) ∧ stopK.Sl w' (fun k => w.heap.size ≤ k) u L ∧ Below w.heap.size w w' := by
  have HR := hide hr
  obtain ⟨n, hln⟩ : ∃ n, n = L.length := ⟨_, rfl⟩
  rw [← hln] at HR hn ⊢
  have HLN := hide hln
  clear hr hln
  go_enter Try.func31, Try.ntmps31
  go_upto_region 1 with fail
  refine wp_two ?_
  intro W0 hb2 hb3 hbel hsz
  have c0 : W0.cell? ⟨w.heap.size, 1, none⟩ = some (.int .i64 every) := by rw [blk_cell hb2]; rfl
  have HB2 := hide hb2
  have HB3 := hide hb3
  have HBEL := hide hbel
  have HSZ := hide hsz
  clear hb2 hb3 hbel hsz
  go_upto_region 2 with fail
  refine wp_one ?_
  intro W1 hb4 hbel1 hsz1
  have HB4 := hide hb4
  have HB1 := hide (blk_below HB2.out hbel1 (blk_lt HB2.out))
  have HBX := hide (blk_below HB3.out hbel1 (blk_lt HB3.out))
  have HBE1 := hide (HBEL.out.trans (hbel1.mono HBEL.out.size))
  have hlt4 : w.heap.size + 2 ≤ W0.heap.size := by have := blk_lt HB3.out; omega
  obtain ⟨g, hg⟩ : ∃ g, g = W0.heap.size := ⟨_, rfl⟩
  rw [← hg] at HB4 hlt4 ⊢
  clear hb4 hbel1 hsz1 c0 HB2 HB3 HBEL HSZ hg
  go_wp2_with fail
  go_loopw [4] (fun t4 wr => ∃ (i : Nat) (v : Value), t4 = .int .i64 i ∧ i ≤ n ∧ Hid (wr.heap[w.heap.size]? = some (.cells #[.slice A n c, .int .i64 every] 24 (0, 0))) ∧ Hid (wr.heap[w.heap.size + 1]? = some (.cells #[.slice none 0 0, .int .i64 0] 38 (0, 0))) ∧ Hid (wr.heap[g]? = some (.cells #[v, .int .i64 every] 38 (0, 0))) ∧ Hid (stopK.Own 113 wr (fun _ => False) (g + 1) v (L.take i)) ∧ Hid (Below w.heap.size w wr)) (fun t4 _ => n - (intOf t4).toNat)
  case atStart => exact ⟨0, _, rfl, Nat.zero_le _, HB1, HBX, HB4, hide (Kind.Own.nil _ _ _ _ _), HBE1⟩
  case round =>
    obtain ⟨i, v, rfl, hi, HA, HX, HB, HO, HBE⟩ := hrel
    have zA : wr.cell? ⟨w.heap.size, 0, none⟩ = some (.slice A n c) := by rw [blk_cell HA.out]; rfl
    by_cases hlt : i < n
    · obtain ⟨x, hx⟩ : ∃ x, L[i]? = some x := ⟨_, List.getElem?_eq_getElem (by have := HLN.out; omega)⟩
      obtain ⟨b1, o1, rfl, -, p0, p1⟩ := rd_stop (HR.out.below HBE.out) hx
      have htk : L.take (i + 1) = L.take i ++ [x] := by
        obtain ⟨hil, hxe⟩ := List.getElem?_eq_some_iff.1 hx
        rw [List.take_succ_eq_append_getElem hil, hxe]
      have HTK := hide htk
      obtain ⟨T, hT⟩ : ∃ T, T = L.take i := ⟨_, rfl⟩
      have hTl : T.length ≤ i := by rw [hT, List.length_take]; omega
      rw [← hT] at HO HTK
      clear hx htk hT
      obtain ⟨A0, c0, rfl, -, -, -, -, -⟩ := HO.out.form
      obtain ⟨at0, kd⟩ := x
      go_upto_region 5 with fail
      obtain ⟨v6, w6, hrun, ho6, hgr6, hv6⟩ := push_kind (P := Try.prog) (w := wr.drew) stopK 36 36 113 _ 16 Try.underlying36 info_rstop rfl (by decide) (by decide) (HO.out.below (Below.refl wr.heap.size wr).drew) (y := ⟨at0, kd⟩) (cs := [.int .i64 at0, .int .u8 (kd.toNat : Int)]) rfl (fun k hk => hk.elim) (by show (T.length + 1) * 16 ≤ _; omega) (show g + 1 ≤ wr.heap.size by have := blk_lt HB.out; omega)
      obtain ⟨A6, c6, rfl, -, -, -, -, -⟩ := ho6.form
      obtain ⟨n6, hn6⟩ : ∃ n6, n6 = (T ++ [(⟨at0, kd⟩ : StopT)]).length := ⟨_, rfl⟩
      rw [← hn6] at hrun ho6 hv6
      clear hn6
      have hb6 : w6.heap[g]? = some (.cells #[.slice A0 T.length c0, .int .i64 every] 38 (0, 0)) := (hgr6.block g (blk_lt HB.out) (fun e => by have := (HO.out.lt _ e.symm).1; omega)).trans HB.out
      have y0 : wr.cell? ⟨g, 0, none⟩ = some (.slice A0 T.length c0) := by rw [blk_cell HB.out]; rfl
      have y2 := fun o : Obj => cell_stays (w' := wr.alloc o) ((Below.refl _ _).alloc (Nat.le_refl _) _) y0
      have z1 : w6.cell? ⟨g, 0, none⟩ = some (.slice A0 T.length c0) := by rw [blk_cell hb6]; rfl
      have z2 : w6.frozen? ⟨g, 0, none⟩ = false := blk_frozen hb6
      have hg6 : Below w.heap.size w w6 := HBE.out.grown (⟨hgr6.os, hgr6.tape, hgr6.output, hgr6.size, hgr6.block⟩ : wr.grownBy w6 _) HBE.out.size (fun k hk => by have := (HO.out.lt k hk).1; omega)
      have HB6 := hide hb6
      have HO6 := hide ho6
      have HG6 := hide hg6
      have HGR := hide hgr6
      clear hb6 ho6 hg6 hgr6 hv6
      go_region_law (refine step_append0 rfl _ _ 36 rfl (.slice A0 T.length c0) _ (.slice A6 n6 c6) rfl rfl hrun ?_)
      all_goals
        have hb7 := blk_set HB6.out 0 (.slice A6 n6 c6)
        have hk7 : Kept (fun k => k = g) w6 (w6.setCell ⟨g, 0, none⟩ (.slice A6 n6 c6)) := (Kept.refl (fun k => k = g) w6).setCell (p := ⟨g, 0, none⟩) (.inl rfl) _
        have ha7 : (w6.setCell ⟨g, 0, none⟩ (.slice A6 n6 c6)).heap[w.heap.size]? = some (.cells #[.slice (some ⟨b1, o1, none⟩) n c, .int .i64 every] 24 (0, 0)) := blk_kept (blk_grown HA.out (⟨HGR.out.os, HGR.out.tape, HGR.out.output, HGR.out.size, HGR.out.block⟩ : wr.grownBy w6 _) (fun e => by have := (HO.out.lt _ e.symm).1; omega)) hk7 (by omega)
        have hx7 : (w6.setCell ⟨g, 0, none⟩ (.slice A6 n6 c6)).heap[w.heap.size + 1]? = some (.cells #[.slice none 0 0, .int .i64 0] 38 (0, 0)) := blk_kept (blk_grown HX.out (⟨HGR.out.os, HGR.out.tape, HGR.out.output, HGR.out.size, HGR.out.block⟩ : wr.grownBy w6 _) (fun e => by have := (HO.out.lt _ e.symm).1; omega)) hk7 (by omega)
        have ho7 := HO6.out.step (w' := w6.setCell ⟨g, 0, none⟩ (.slice A6 n6 c6)) (fun k hk => hk7.block k (HO6.out.lt k hk).2 (by have := (HO6.out.lt k hk).1; omega)) (fun k hk => hk.elim)
        have hg7 : Below w.heap.size w (w6.setCell ⟨g, 0, none⟩ (.slice A6 n6 c6)) := HG6.out.trans (hk7.below HG6.out.size (fun i h => by omega))
        have HB7 := hide hb7
        have HA7 := hide ha7
        have HX7 := hide hx7
        have HO7 := hide ho7
        have HG7 := hide hg7
        clear hb7 hk7 ha7 hx7 ho7 hg7 z1 z2 y0 y2 hrun
        generalize (w6.setCell ⟨g, 0, none⟩ (.slice A6 n6 c6)) = w7 at HB7 HA7 HX7 HO7 HG7 ⊢
      all_goals go_wp2_with fail
      all_goals go_roundw
      all_goals first
        | exact ⟨i + 1, .slice A6 n6 c6, by go_num, by omega, HA7, HX7, HB7, hide (by rw [HTK.out]; exact HO7.out), HG7⟩
        | (simp [intOf]; omega)
    · have hin : i = n := by omega
      have HIN := hide hin
      clear hin
      obtain ⟨A0, c0, rfl, -, -, -, -, -⟩ := HO.out.form
      obtain ⟨m0, hm0⟩ : ∃ m0, m0 = (L.take i).length := ⟨_, rfl⟩
      rw [← hm0] at HB
      have HM0 := hide hm0
      clear hm0
      go_wp2_with (first
        | refine wpList_load_row rfl 38 _ rfl g rfl 38 _ (0, 0) _ HB.out Try.underlying38 rfl size_rstops ?_
        | refine wpList_store_row rfl 38 _ _ rfl (w.heap.size + 1) _ rfl rfl 38 _ HX.out size_rstops rfl (stops_one _ _ _ _) ?_)
      refine bodyPost_ret (results_cell_row rfl _ _ (w.heap.size + 1) 38 _ (0, 0) _ rfl (setRow_heap _ _ _ _ _ _ HX.out) Try.underlying38 rfl size_rstops) rfl ?_
      have htk : L.take i = L := List.take_of_length_le (by have := HIN.out; have := HLN.out; omega)
      have hsl := (HO.out.sl.weaken (ok' := fun k => g + 1 ≤ k) (fun k hk => hk.elim (fun h => h.elim) id)).step (w' := wr.setRow (w.heap.size + 1) #[.slice A0 m0 c0, .int .i64 every]) (fun k hk _ => setRow_other wr (w.heap.size + 1) k _ (by omega))
      rw [← HM0.out, htk] at hsl
      exact ⟨.slice A0 m0 c0, rfl, hsl.weaken (fun k hk => by omega), below_setRow HBE.out (Nat.le_succ _) _⟩
end Go.Proofs.Ytekkjieoikgpmaa
