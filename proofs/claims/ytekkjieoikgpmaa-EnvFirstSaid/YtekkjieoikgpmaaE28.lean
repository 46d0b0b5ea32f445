/- The law EnvNothing: the walk. -/
import Derived.Test.YtekkjieoikgpmaaE27
set_option linter.unusedVariables false
set_option linter.unusedSimpArgs false
namespace Go.Proofs.Ytekkjieoikgpmaa
open Go.RowKit
set_option maxHeartbeats 3200000
set_option maxRecDepth 1000000

theorem wpList_bs1 {P : Program} {ops : Array Oper} {rest : List Oper} {o : Oper} {a : Act} {w w' : World} {Q : Exit → Act → World → Prop} (hg : o.guard = none) (t : TypeId) (x : Operand) (ho : o.op = .buildSlice t 1 #[(0, x)]) (xv v : Value) (hx : a.eval x = xv)
    (hrun : (Instr.buildSlice t 1 #[(0, xv)]).run P w = .ok v w') (h : wpList P ops Q rest (a.put o.dst v) w') : wpList P ops Q (o :: rest) a w :=
  wpList_plain hg fun K hK => by
    unfold Oper.wp execOp
    simp only [ho, List.map_toArray, List.map_cons, List.map_nil, hx, Sem.run_bind, hrun, Result.andThen_ok]
    exact hK _ _ h
theorem boxEq_self (x : BoxT) : boxEq x x = true := by
  unfold boxEq
  simp [all2_self (fun (a b : Int) => a == b) (fun a => by simp)]
theorem sameE_self (x : EnvT) : sameE x x = true := by
  have h1 := all2_self (fun (a b : Int) => a == b) (fun a => by simp) (intsOf x)
  have h2 := all2_self (fun (a b : Bool) => a == b) (fun a => by simp) (flagsOf x)
  have h3 := all2_self (fun (a b : ByteArray) => a.toList == b.toList) (fun a => by simp) (textsOf x)
  have h4 := all2_self (fun (a b : Int) => a == b) (fun a => by simp) (numsOf x)
  have h5 := all2_self eqStop (fun a => by simp [eqStop]) x.stops
  have h6 := all2_self boxEq boxEq_self x.row
  unfold sameE plainB
  rw [h1, h2, h3, h4, h5, h6]
  simp
theorem zero_deed : (Try.prog.info? 32).map (fun i => (i.zero, i.size)) = some (some (.agg (DeedE.cells ⟨0, 0, ⟨#[]⟩, zeroT⟩ (zeroT.cells (.slice none 0 0) (.slice none 0 0))).toArray), 43) := by kernel_rfl
theorem deed_size (x : DeedE) {ec : List Value} (h : ec.length = 40) : (x.cells ec).toArray.size = 43 := by simp [DeedE.cells, h]
theorem EnvNothing_any (x : DeedE) (ec : List Value) (w : World) (hx : deedK.K w (fun _ => True) x (x.cells ec)) :
    Calls Try.prog 7 #[.agg (x.cells ec).toArray] w fun e w' => e = .returned (.bool true) ∧ Below w.heap.size w w' := by
  have hec : ec.length = 40 := by have : (x.cells ec).length = 43 := deedK.len hx; simpa [DeedE.cells] using this
  obtain ⟨z, hz, hz2⟩ : ∃ z : Nat, (IntKind.u64.wrap x.k).tmod 4 = (z : Int) ∧ z ≤ 3 := by
    have h0 : 0 ≤ IntKind.u64.wrap x.k := by rw [IntKind.wrap_u64]; omega
    refine ⟨((IntKind.u64.wrap x.k).tmod 4).toNat, ?_, ?_⟩ <;> (rw [Int.tmod_eq_emod_of_nonneg h0]; omega)
  have HZ := hide hz
  have HX := hide hx
  have HEC := hide hec
  clear hz hx hec
  go_enter Try.func7, Try.ntmps7
  go_upto_region 1 with fail
  refine wp_one ?_
  intro W0 hb hbel hsz
  have HB0 := hide hb
  have HBEL := hide hbel
  clear hb hbel hsz
  have hal : Below W0.heap.size W0 (W0.alloc (.cells (x.cells ec).toArray 32)) := (Below.refl _ _).alloc (Nat.le_refl _) _
  have hrd : deedK.Rd (W0.alloc (.cells (x.cells ec).toArray 32)) (fun _ => True) (some ⟨W0.heap.size, 0, none⟩) 1 [x] :=
    rd_block (l := [x]) (blk_new W0 _) (by simpa using (Kind.Reps.nil deedK _ _).snoc (Kind.below HX.out (HBEL.out.trans (hal.mono HBEL.out.size)))) trivial
  have HRD := hide hrd
  have HAL := hide (HBEL.out.trans (hal.mono HBEL.out.size))
  have HBA := hide (blk_below HB0.out hal (blk_lt HB0.out))
  clear hal hrd
  have HBS := hide (run_build_one W0 33 32 _ 43 (x.cells ec).toArray Try.underlying33 zero_deed rfl (by decide) (by decide) (deed_size x HEC.out))
  go_upto_if 8 with (first
    | refine wpList_load_row rfl 32 _ rfl w.heap.size rfl 32 _ (0, 0) _ HB0.out Try.underlying32 rfl (by rw [size_deed, deed_size x HEC.out]) ?_
    | refine wpList_bs1 rfl 33 (Operand.tmp 6) rfl (.agg (x.cells ec).toArray) _ rfl HBS.out ?_
    | (go_at_call 8
       refine (big_any _ 1 1 _ _ _ HRD.out (by omega)).mono ?_
       rintro e w2 ⟨⟨r, rfl⟩, q⟩
       have HB2 := hide (HAL.out.trans (q.mono HAL.out.size))
       have HBK := hide (blk_below HBA.out q (blk_lt HBA.out))
       clear q))
  clear HAL HBA HB0 HRD HX HBEL HBS
  cases r with
  | true =>
    go_wp2_with (go_at_call 9; refine (sane_any _).mono ?_; rintro e w9 ⟨rfl, q⟩; have HQ := hide (below_self HB2.out q); clear q)
    go_ret
    exact ⟨rfl, HQ.out⟩
  | false =>
  have hz := HZ.out
  have z0 : w2.cell? ⟨w.heap.size, 0, none⟩ = some (.int .i64 x.k) := by rw [blk_cell HBK.out]; rfl
  have zf : w2.frozen? ⟨w.heap.size, 0, none⟩ = false := blk_frozen HBK.out
  go_upto_region 4 with fail
  clear z0 zf hz
  refine wp_set HBK.out ?_
  intro W3 hb3 hk3 hsz3
  have hb3' : W3.heap[w.heap.size]? = some (.cells (DeedE.cells ⟨(z : Int), x.n, x.nm, zeroT⟩ ec).toArray 32 (0, 0)) := hb3
  have HB3 := hide hb3'
  have HBW3 := hide (HB2.out.trans (hk3.below HB2.out.size (fun i h => by omega)))
  clear hb3 hb3' hk3 hsz3 HBK HB2 HZ
  go_upto_region 6 with fail
  refine wp_two ?_
  intro W5 hb5 hb6 hbel5 hsz5
  have B1 := hide (blk_below HB3.out hbel5 (blk_lt HB3.out))
  have B2 := hide hb5
  have B3 := hide hb6
  have HBW := hide (HBW3.out.trans (hbel5.mono HBW3.out.size))
  clear hb5 hb6 hbel5 hsz5 HB3 HBW3
  generalize W3.heap.size = G at B2 B3 ⊢
  generalize hD : w.heap.size = D at B1 ⊢
  have hsame : sameE firstT firstT = true := sameE_self _
  have HSAME := hide hsame
  have HD := hide hD
  clear hsame hD
  go_wp2_with fail
  go_loopw [5] (fun t5 wr => ∃ i : Nat, t5 = .int .i64 i ∧ i ≤ 2 ∧ Hid (Below W5.heap.size W5 wr)) (fun t5 _ => 2 - (intOf t5).toNat)
  case atStart => exact ⟨0, rfl, by omega, hide (Below.refl _ _)⟩
  case round =>
    obtain ⟨i, rfl, hi, HK⟩ := hrel
    by_cases hi0 : i = 0
    · subst hi0
      have HN : Hid (NoEnv wr (.pointer none)) := hide (NoEnv.nil wr)
      have k3 := blk_below B3.out HK.out (blk_lt B3.out)
      have c0 : wr.cell? ⟨G + 1, 0, none⟩ = some (.pointer none) := by rw [blk_cell k3]; rfl
      have K1 := hide (blk_below B1.out HK.out (blk_lt B1.out))
      have C0 := cell_after c0
      clear c0 k3
      go_upto_region 9 with fail
      refine wp_region_after (by kernel_rfl) (by kernel_rfl) ?_
      repeat (first
        | (go_big_quiet_want
           refine quiet_load_row 32 (Operand.tmp 1) rfl D (by go_simp) 32 _ (0, 0) _ (fun w' hw => by obtain ⟨q, rfl⟩ := hw; exact blk_below K1.out q.h (blk_lt K1.out)) Try.underlying32 rfl (by rw [size_deed, deed_size _ HEC.out]) ?_
           simp only [Act.put, List.setIfInBounds_toArray, List.set_cons_zero, List.set_cons_succ]
           go_big_quiet_on)
        | (go_big_quiet_step (first
            | (go_at_call 26; exact calls_after (do_no z hz2 x.n x.nm ec HEC.out _ (HN.out.below (After.h _))))
            | (go_at_call 18; exact calls_after (Now_no _ (HN.out.below (After.h _))))
            | (go_at_call 12; exact calls_after (First_any _))
            | (go_at_call 16; refine calls_after (v := .bool true) ?_; rw [← HSAME.out]; exact Same_any firstT firstT firstCs firstCs (fun _ => True) (fun _ => True) _ (first_K _ _) (first_K _ _) first_small first_small)
            | (go_at_call 24; exact calls_after (Name_no _ (HN.out.below (After.h _))))
            | (go_at_call 27; exact calls_after (Names_no _ (HN.out.below (After.h _))))
            | (go_at_call 22; exact calls_after (Depth_no _ (HN.out.below (After.h _))))
            | (go_at_call 28; exact calls_after (Copy_no _ (HN.out.below (After.h _))))))) 
      refine wpQuiet_nil ?_
      intro _ hw'
      obtain ⟨q, rfl⟩ := hw'
      have HQ := hide q.h
      clear C0 HN K1
      generalize q.W = wq at HQ ⊢
      go_wp2_with fail
      go_roundw
      case rel => exact ⟨0 + 1, by go_num, by omega, hide (below_self HK.out HQ.out)⟩
      case measure => simp [intOf]
    by_cases hi1 : i = 1
    · subst hi1
      have HN : Hid (NoEnv wr (.pointer (some ⟨G, 0, none⟩))) := hide (NoEnv.made (by rw [blk_cell (blk_below B2.out HK.out (blk_lt B2.out))]; rfl))
      have k3 := blk_below B3.out HK.out (blk_lt B3.out)
      have c0 : wr.cell? ⟨G + 1, 1, none⟩ = some (.pointer (some ⟨G, 0, none⟩)) := by rw [blk_cell k3]; rfl
      have K1 := hide (blk_below B1.out HK.out (blk_lt B1.out))
      have C0 := cell_after c0
      clear c0 k3
      go_upto_region 9 with fail
      refine wp_region_after (by kernel_rfl) (by kernel_rfl) ?_
      repeat (first
        | (go_big_quiet_want
           refine quiet_load_row 32 (Operand.tmp 1) rfl D (by go_simp) 32 _ (0, 0) _ (fun w' hw => by obtain ⟨q, rfl⟩ := hw; exact blk_below K1.out q.h (blk_lt K1.out)) Try.underlying32 rfl (by rw [size_deed, deed_size _ HEC.out]) ?_
           simp only [Act.put, List.setIfInBounds_toArray, List.set_cons_zero, List.set_cons_succ]
           go_big_quiet_on)
        | (go_big_quiet_step (first
            | (go_at_call 26; exact calls_after (do_no z hz2 x.n x.nm ec HEC.out _ (HN.out.below (After.h _))))
            | (go_at_call 18; exact calls_after (Now_no _ (HN.out.below (After.h _))))
            | (go_at_call 12; exact calls_after (First_any _))
            | (go_at_call 16; refine calls_after (v := .bool true) ?_; rw [← HSAME.out]; exact Same_any firstT firstT firstCs firstCs (fun _ => True) (fun _ => True) _ (first_K _ _) (first_K _ _) first_small first_small)
            | (go_at_call 24; exact calls_after (Name_no _ (HN.out.below (After.h _))))
            | (go_at_call 27; exact calls_after (Names_no _ (HN.out.below (After.h _))))
            | (go_at_call 22; exact calls_after (Depth_no _ (HN.out.below (After.h _))))
            | (go_at_call 28; exact calls_after (Copy_no _ (HN.out.below (After.h _))))))) 
      refine wpQuiet_nil ?_
      intro _ hw'
      obtain ⟨q, rfl⟩ := hw'
      have HQ := hide q.h
      clear C0 HN K1
      generalize q.W = wq at HQ ⊢
      go_wp2_with fail
      go_roundw
      case rel => exact ⟨1 + 1, by go_num, by omega, hide (below_self HK.out HQ.out)⟩
      case measure => simp [intOf]
    have hi2 : i = 2 := by omega
    subst hi2
    go_wp2_with (go_at_call 9; refine (sane_any _).mono ?_; rintro e w9 ⟨rfl, q⟩; have HQ := hide (HBW.out.trans ((below_self HK.out q).mono HBW.out.size)); clear q)
    go_ret
    exact ⟨rfl, HQ.out⟩
end Go.Proofs.Ytekkjieoikgpmaa
