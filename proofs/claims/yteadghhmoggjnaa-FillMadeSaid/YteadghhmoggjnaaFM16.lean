import Derived.Test.YteadghhmoggjnaaFM8
set_option linter.unusedVariables false
set_option linter.unusedSimpArgs false
section
namespace Go.Proofs.Yteadghhmoggjnaa.Q
open Go.RowKit YteadghhmoggjnaaW.PrintWords YteadghhmoggjnaaW.PrintLast YteadghhmoggjnaaW.PrintMore
attribute [local go_sem] max2_int max_two
set_option maxHeartbeats 8000000
set_option maxRecDepth 100000
def r_cut.f (l0 : List (S33)) (l1 : List (S33)) (a2 : Int) (a3_0 : Int) (a3_1 : Int) (a3_2 : Int) (a3_3 : Int) (a3_4 : ByteArray) (a3_5 : ByteArray) (l3_6 : List Int) : Option ((List (S33))) := (some (([] : List (S33)) : List (S33))).bind fun y443 => (if y443.length + l0.length < 1599289640401 then ((some (y443 ++ l0 : List (S33))).bind fun y446 => (if 0 ≤ a2 then (if a2 ≤ (l1.length : Int) then ((some (l1.take (a2 : Int).toNat : List (S33))).bind fun y449 => (if y446.length + y449.length < 1599289640401 then ((some (y446 ++ y449 : List (S33))).bind fun y454 => (if a3_0 = 0 then (if y454.length < 1599289640401 then (some (y454 ++ [(⟨a3_0, a3_1, a3_2, a3_3, a3_4, a3_5, l3_6⟩ : S33)])) else (none)) else (some y454))) else (none))) else (none)) else (none))) else (none))
def r_cut.T1 : Bool × List (List Nat × List Nat) := (true, [([], []), ([], []), ([0, 1], [0, 1]), ([], []), ([], []), ([3, 4], [3, 4]), ([2, 5, 2], [2, 5]), ([6, 6, 0, 1, 2, 3, 4, 5, 6], [6])])
def r_cut.B1 : List Nat := [0, 0, 3, 0, 0, 24, 63, 127]
theorem r_cut.tab1 : rtab .any (opsOf Try.f81 1) = r_cut.T1 := by kernel_rfl
theorem r_cut.bits1 : waitsOk r_cut.T1.2 r_cut.B1 = true := by kernel_rfl
theorem r_cut.calls (P0_ : Nat → Prop) (A0 : Option Addr) (c0 : Nat) (l0 : List (S33)) (P1_ : Nat → Prop) (A1 : Option Addr) (c1 : Nat) (l1 : List (S33)) (a2 : Int) (a3_0 : Int) (a3_1 : Int) (a3_2 : Int) (a3_3 : Int) (a3_4 : ByteArray) (a3_5 : ByteArray) (P3_6_ : Nat → Prop) (A3_6 : Option Addr) (c3_6 : Nat) (l3_6 : List Int) (r : List (S33)) (w : World) (hs0 : Kd.V k33 33 w w.heap.size (fun k_ => P0_ k_) (.slice A0 l0.length c0) l0) (hs1 : Kd.V k33 33 w w.heap.size (fun k_ => P1_ k_) (.slice A1 l1.length c1) l1) (hs3_6 : Kd.V (Kd.int .i64) 3 w w.heap.size (fun k_ => P3_6_ k_) (.slice A3_6 l3_6.length c3_6) l3_6) (h : r_cut.f l0 l1 a2 a3_0 a3_1 a3_2 a3_3 a3_4 a3_5 l3_6 = some r) :
  Calls Try.prog 81 #[.slice A0 l0.length c0, .slice A1 l1.length c1, .int .i64 a2, .agg #[.int .i64 a3_0, .int .i64 a3_1, .int .i64 a3_2, .int .i64 a3_3, .string a3_4, .string a3_5, .slice A3_6 l3_6.length c3_6]] w fun e w' => ∃ v0_ : Value, e = .returned (v0_) ∧ Kd.N k33 33 w' w.heap.size (fun k_ => ((P0_ k_ ∨ P1_ k_ ∨ P3_6_ k_) ∨ w.heap.size ≤ k_)) v0_ r ∧ Below w.heap.size w w' := by
 have hu33 := Try.underlying33
 have HO0 := o_ (show Kd.V k33 33 w w.heap.size (fun k_ => ((P0_ k_ ∨ P1_ k_ ∨ P3_6_ k_) ∨ w.heap.size ≤ k_)) (.slice A0 l0.length c0) l0 from Kd.V_mono hs0 (fun k_ hk => .inl (.inl hk)))
 have HO1 := o_ (show Kd.V k33 33 w w.heap.size (fun k_ => ((P0_ k_ ∨ P1_ k_ ∨ P3_6_ k_) ∨ w.heap.size ≤ k_)) (.slice A1 l1.length c1) l1 from Kd.V_mono hs1 (fun k_ hk => .inl (.inr (.inl hk))))
 have HO3_6 := o_ (show Kd.V (Kd.int .i64) 3 w w.heap.size (fun k_ => ((P0_ k_ ∨ P1_ k_ ∨ P3_6_ k_) ∨ w.heap.size ≤ k_)) (.slice A3_6 l3_6.length c3_6) l3_6 from Kd.V_mono hs3_6 (fun k_ hk => .inl (.inr (.inr hk))))
 have HB := o_ (Below.refl w.heap.size w)
 have H : ((some (([] : List (S33)) : List (S33))).bind fun y443 => (if y443.length + l0.length < 1599289640401 then ((some (y443 ++ l0 : List (S33))).bind fun y446 => (if 0 ≤ a2 then (if a2 ≤ (l1.length : Int) then ((some (l1.take (a2 : Int).toNat : List (S33))).bind fun y449 => (if y446.length + y449.length < 1599289640401 then ((some (y446 ++ y449 : List (S33))).bind fun y454 => (if a3_0 = 0 then (if y454.length < 1599289640401 then (some (y454 ++ [(⟨a3_0, a3_1, a3_2, a3_3, a3_4, a3_5, l3_6⟩ : S33)])) else (none)) else (some y454))) else (none))) else (none)) else (none))) else (none))) = some r := h
 clear h
 obtain ⟨y443, hy443⟩ : ∃ y_ : List (S33), y_ = (([] : List (S33))) := ⟨_, rfl⟩
 replace H : (if y443.length + l0.length < 1599289640401 then ((some (y443 ++ l0 : List (S33))).bind fun y446 => (if 0 ≤ a2 then (if a2 ≤ (l1.length : Int) then ((some (l1.take (a2 : Int).toNat : List (S33))).bind fun y449 => (if y446.length + y449.length < 1599289640401 then ((some (y446 ++ y449 : List (S33))).bind fun y454 => (if a3_0 = 0 then (if y454.length < 1599289640401 then (some (y454 ++ [(⟨a3_0, a3_1, a3_2, a3_3, a3_4, a3_5, l3_6⟩ : S33)])) else (none)) else (some y454))) else (none))) else (none)) else (none))) else (none)) = some r := by first | (rw [hy443]; with_reducible exact H) | (have H2_ := (Option.bind_some _ _).symm.trans H; rw [hy443]; with_reducible exact H2_) | (have H2_ := (Option.bind_some _ _).symm.trans H; with_reducible exact H2_) | with_reducible exact H | (rw [hy443]; exact H) | exact H
 have Ny443 := o_ hy443
 clear hy443
 by_cases c5 : y443.length + l0.length < 1599289640401
 rotate_left
 ·rw [if_neg c5] at H
  exact absurd H (by simp)
 rw [if_pos c5] at H
 have LMc5 := o_ c5
 clear c5
 obtain ⟨y446, hy446⟩ : ∃ y_ : List (S33), y_ = (y443 ++ l0) := ⟨_, rfl⟩
 replace H : (if 0 ≤ a2 then (if a2 ≤ (l1.length : Int) then ((some (l1.take (a2 : Int).toNat : List (S33))).bind fun y449 => (if y446.length + y449.length < 1599289640401 then ((some (y446 ++ y449 : List (S33))).bind fun y454 => (if a3_0 = 0 then (if y454.length < 1599289640401 then (some (y454 ++ [(⟨a3_0, a3_1, a3_2, a3_3, a3_4, a3_5, l3_6⟩ : S33)])) else (none)) else (some y454))) else (none))) else (none)) else (none)) = some r := by first | (rw [hy446]; with_reducible exact H) | (have H2_ := (Option.bind_some _ _).symm.trans H; rw [hy446]; with_reducible exact H2_) | (have H2_ := (Option.bind_some _ _).symm.trans H; with_reducible exact H2_) | with_reducible exact H | (rw [hy446]; exact H) | exact H
 have Ny446 := o_ hy446
 clear hy446
 by_cases c6 : 0 ≤ a2
 rotate_left
 ·rw [if_neg c6] at H
  exact absurd H (by simp)
 rw [if_pos c6] at H
 have c6b0 := eq_true c6
 have c6b1 := decide_eq_true c6
 clear c6
 by_cases c7 : a2 ≤ (l1.length : Int)
 rotate_left
 ·rw [if_neg c7] at H
  exact absurd H (by simp)
 rw [if_pos c7] at H
 have c7b0 := eq_true c7
 have c7b1 := decide_eq_true c7
 clear c7
 obtain ⟨y449, hy449⟩ : ∃ y_ : List (S33), y_ = (l1.take (a2 : Int).toNat) := ⟨_, rfl⟩
 replace H : (if y446.length + y449.length < 1599289640401 then ((some (y446 ++ y449 : List (S33))).bind fun y454 => (if a3_0 = 0 then (if y454.length < 1599289640401 then (some (y454 ++ [(⟨a3_0, a3_1, a3_2, a3_3, a3_4, a3_5, l3_6⟩ : S33)])) else (none)) else (some y454))) else (none)) = some r := by first | (rw [hy449]; with_reducible exact H) | (have H2_ := (Option.bind_some _ _).symm.trans H; rw [hy449]; with_reducible exact H2_) | (have H2_ := (Option.bind_some _ _).symm.trans H; with_reducible exact H2_) | with_reducible exact H | (rw [hy449]; exact H) | exact H
 have Ny449 := o_ hy449
 clear hy449
 by_cases c8 : y446.length + y449.length < 1599289640401
 rotate_left
 ·rw [if_neg c8] at H
  exact absurd H (by simp)
 rw [if_pos c8] at H
 have LMc8 := o_ c8
 clear c8
 obtain ⟨y454, hy454⟩ : ∃ y_ : List (S33), y_ = (y446 ++ y449) := ⟨_, rfl⟩
 replace H : (if a3_0 = 0 then (if y454.length < 1599289640401 then (some (y454 ++ [(⟨a3_0, a3_1, a3_2, a3_3, a3_4, a3_5, l3_6⟩ : S33)])) else (none)) else (some y454)) = some r := by first | (rw [hy454]; with_reducible exact H) | (have H2_ := (Option.bind_some _ _).symm.trans H; rw [hy454]; with_reducible exact H2_) | (have H2_ := (Option.bind_some _ _).symm.trans H; with_reducible exact H2_) | with_reducible exact H | (rw [hy454]; exact H) | exact H
 have Ny454 := o_ hy454
 clear hy454
 by_cases c9 : a3_0 = 0
 rotate_left
 ·rw [if_neg c9] at H
  have c9b0 : (a3_0 == 0) = false := beq_eq_false_iff_ne.mpr c9
  have c9b1 : (a3_0 != 0) = true := bne_iff_ne.mpr c9
  obtain rfl := Option.some.inj H
  go_enter Try.func81, Try.ntmps81
  try go_wp2_with (first | ((with_reducible refine gate_dst (N := 7) rfl ?_); refine box_event ?hg (N := 7) ?hd (cs := #[.int .i64 a3_0, .int .i64 a3_1, .int .i64 a3_2, .int .i64 a3_3, .string a3_4, .string a3_5, .slice A3_6 l3_6.length c3_6]) (t := 33) ?hr ?_; (case hd => rfl); (case hg => rfl); (case hr => first | (go_simp; done) | (go_simp; rfl)); intro gb442 hg w20 hbox hb; have n0_ := o_ (Kd.V_below (Kd.V_elderB (Vu HO0) gb442 (Nat.le_of_eq hg.symm)) hb); have n1_ := o_ (Kd.V_below (Kd.V_elderB (Vu HO1) gb442 (Nat.le_of_eq hg.symm)) hb); have n2_ := o_ (Kd.V_below (Kd.V_elderB (Vu HO3_6) gb442 (Nat.le_of_eq hg.symm)) hb); have n3_ := o_ (below_step (bl HB) hb); have n4_ := o_ (hbox); have n5_ := o_ ((by rw [hg]; exact (below_size (bl HB)) : w.heap.size ≤ gb442)); have n6_ := o_ ((by rw [hg]; exact (below_size (bl HB)) : w.heap.size ≤ gb442)); clear HO0; clear HO1; clear HO3_6; clear HB; have HO0 := n0_; have HO1 := n1_; have HO3_6 := n2_; have HB := n3_; have BK442 := n4_; have GW442 := n5_; have GE442 := n6_; clear n0_ n1_ n2_ n3_ n4_ n5_ n6_; clear hb hbox hg))
  have n0_ := o_ (Kd.V_drew HO0.out)
  have n1_ := o_ (Kd.V_drew HO1.out)
  have n2_ := o_ (Kd.V_drew HO3_6.out)
  have n3_ := o_ (blk_drew BK442.out)
  have n4_ := o_ (below_drew1 HB.out)
  clear HO0
  clear HO1
  clear HO3_6
  clear BK442
  clear HB
  have HO0 := n0_
  have HO1 := n1_
  have HO3_6 := n2_
  have BK442 := n3_
  have HB := n4_
  clear n0_ n1_ n2_ n3_ n4_
  have q22 : (a2 : Int) ≤ ((l1.length : Int) : Int) := oa
  obtain ⟨i022, hi022, _, hsz22, _⟩ := info_parts info33
  have hroom22 : l1.length ≤ c1 := (Kd.V_reads' HO1.out).2.1
  have hC22 : Kd.F k33 _ _ A1 l1.length l1 := (Kd.V_at (base := w.heap.size) HO1.out).2.2
  have hcut22 := cut_to (P := Try.prog) 23 33 .i64 Try.underlying23 hi022 A1 l1.length c1 a2 (oa) q22 hroom22
  have hr22 := Kd.F_take (m := (a2 : Int).toNat) hC22 (by omega)
  have hy22 : y449.length = (a2 : Int).toNat := (by rw [Ny449.out, List.length_take]; omega)
  rw [← Ny449.out] at hr22
  rw [← hy22] at hcut22
  have HO453 := o_ (show Kd.V k33 33 _ w.heap.size _ (.slice A1 y449.length c1) y449 from Kd.V_mk (by omega) hr22)
  have HC453 := o_ (show y449.length ≤ c1 from by omega)
  clear hr22 hC22 hroom22 hi022 hsz22
  have KY22 := o_ hy22
  clear hy22
  replace q22 := eq_true q22
  refine start_ (n := 8) (S := fun w' => True) (ds := []) #[false, false, false, false, false, false, false, false] (by kernel_rfl) rfl rfl trivial (fun hHeld => ?_); refine with_tabW r_cut.tab1 r_cut.bits1 (fun HT_ HW_ => ?_)
  generalize w20.drew = w21 at HO0 HO1 HO3_6 BK442 HB HO453 hHeld ⊢
  refine pu 1 11 HT_ (h := ?_)
  refine pu 3 13 HT_ (h := ?_)
  refine pu 4 14 HT_ (h := ?_)
  refine pu 5 15 HT_ (h := ?_)
  refine one_ (i := 0) (N := some 10) #[true, true, false, true, true, true, false, false] rfl rfl (one_of HT_.out (by kernel_rfl)) (by decide) (fun K hK => ?_)
  refine Kd.N_lit_step k33 _ 33 ?hg (N' := 10) ?hd (xs := ([] : List (S33))) (inner := []) (ok := (fun k_ => ((P0_ k_ ∨ P1_ k_ ∨ P3_6_ k_) ∨ w.heap.size ≤ k_) ∧ k_ ≠ gb442)) (okp := (fun k_ => ((P0_ k_ ∨ P1_ k_ ∨ P3_6_ k_) ∨ w.heap.size ≤ k_) ∧ k_ ≠ gb442)) ?hr ?hp (fun _ hk => hk) ((show ∀ k_, w21.heap.size ≤ k_ → (fun k_ => ((P0_ k_ ∨ P1_ k_ ∨ P3_6_ k_) ∨ w.heap.size ≤ k_) ∧ k_ ≠ gb442) k_ from fun k_ hk => ⟨(.inr (Nat.le_trans (below_size (bl HB)) hk)), Kd.freshB (g := gb442) (o := .cells #[.int .i64 a3_0, .int .i64 a3_1, .int .i64 a3_2, .int .i64 a3_3, .string a3_4, .string a3_5, .slice A3_6 l3_6.length c3_6] 33 (0, 0)) (bu BK442) k_ hk⟩) _ (Nat.le_refl _)) (Below.refl _ _) (Nat.le_refl _) (by simp) ?_; (case hd => rfl); (case hg => rfl); (case hr => first | (go_simp; done) | (go_simp; rfl)); (case hp => exact (Reps.none _ _))
  intro v444 w23 ho24 hb hg_ hnew_
  clear hg_ hnew_
  (first | rw [← Ny443.out] at ho24 | (simp only [Int.reduceToNat] at ho24; rw [← Ny443.out] at ho24))
  have n0_ := o_ (Kd.V_elder' (Vu HO0) (Kd.N_base ho24) hb)
  have n1_ := o_ (Kd.V_elder' (Vu HO1) (Kd.N_base ho24) hb)
  have n2_ := o_ (Kd.V_elder' (Vu HO3_6) (Kd.N_base ho24) hb)
  have n3_ := o_ (Kd.V_elder' (Vu HO453) (Kd.N_base ho24) hb)
  have n4_ := o_ (Kd.N_lower ho24 (below_size (bl HB)))
  have n5_ := o_ (blk_below (g := gb442) (o := .cells #[.int .i64 a3_0, .int .i64 a3_1, .int .i64 a3_2, .int .i64 a3_3, .string a3_4, .string a3_5, .slice A3_6 l3_6.length c3_6] 33 (0, 0)) (bu BK442) hb)
  have n6_ := o_ (below_step (bl HB) hb)
  clear HO0
  clear HO1
  clear HO3_6
  clear HO453
  clear BK442
  clear HB
  have HO0 := n0_
  have HO1 := n1_
  have HO3_6 := n2_
  have HO453 := n3_
  have HO445 := n4_
  have BK442 := n5_
  have HB := n6_
  clear n0_ n1_ n2_ n3_ n4_ n5_ n6_
  clear hb ho24
  refine hK.out _ _ trivial (fun hHeld => ?_)
  clear hK K
  refine norm_ (a' := ?_) ?_ ?_
  rotate_left
  ·show Act.put _ (some 10) _ = _
   simp only [Act.put, List.setIfInBounds_toArray, List.set_cons_zero, List.set_cons_succ, i64_w, i32_w]
   rfl
  refine one_ (i := 2) (N := some 12) #[true, true, true, true, true, true, false, false] rfl rfl (one_of HT_.out (by kernel_rfl)) (by decide) (fun K hK => ?_)
  refine Kd.N_append_rows_step k33 (w0 := w) w.heap.size (by rfl) (.tmp 10) (.tmp 11) 23 33 (.agg #[(.int .i64 0), (.int .i64 0), (.int .i64 0), (.int .i64 0), (.string ⟨#[]⟩), (.string ⟨#[]⟩), (.slice none 0 0)]) 88 rfl Try.underlying23 info33 rfl (by decide) (by omega) v444 y443 l0 _ _ _ (fun k_ => ((P0_ k_ ∨ P1_ k_ ∨ P3_6_ k_) ∨ w.heap.size ≤ k_) ∧ k_ ≠ gb442) (fun k_ => ((fun k_ => ((P0_ k_ ∨ P1_ k_ ∨ P3_6_ k_) ∨ w.heap.size ≤ k_) ∧ k_ ≠ gb442)) k_ ∧ some k_ ≠ (v444 : Value).ownBlock) rfl rfl ?aO ?aR (fun _ hk => hk) ?aF ?aB ?aS ?aL ?_
  (case aR => exact (by skip; exact Kd.V_F (Kd.V_mono (ok' := (fun k_ => ((fun k_ => ((P0_ k_ ∨ P1_ k_ ∨ P3_6_ k_) ∨ w.heap.size ≤ k_) ∧ k_ ≠ gb442)) k_ ∧ some k_ ≠ (v444 : Value).ownBlock)) (HO0.out) (fun k_ hk => ⟨⟨hk.1.1, hk.1.2⟩, hk.2⟩))))
  (case aB => exact (bl HB))
  (case aF => exact (fun k_ hk => ⟨(.inr (Nat.le_trans (below_size (bl HB)) hk)), Kd.freshB (g := gb442) (o := .cells #[.int .i64 a3_0, .int .i64 a3_1, .int .i64 a3_2, .int .i64 a3_3, .string a3_4, .string a3_5, .slice A3_6 l3_6.length c3_6] 33 (0, 0)) (bu BK442) k_ hk⟩))
  (case aO => exact (Nu HO445))
  (case aS => exact (below_size (bl HB)))
  (case aL => have := LMc5.out; omega)
  intro v447 w25 ho hb hg hat
  rw [← Ny446.out] at ho
  have n0_ := o_ (Kd.V_afterv (ok := (fun k_ => ((P0_ k_ ∨ P1_ k_ ∨ P3_6_ k_) ∨ w.heap.size ≤ k_) ∧ k_ ≠ gb442)) (Vu HO0) hg hat)
  have n1_ := o_ (Kd.V_afterv (ok := (fun k_ => ((P0_ k_ ∨ P1_ k_ ∨ P3_6_ k_) ∨ w.heap.size ≤ k_) ∧ k_ ≠ gb442)) (Vu HO1) hg hat)
  have n2_ := o_ (Kd.V_afterv (ok := (fun k_ => ((P0_ k_ ∨ P1_ k_ ∨ P3_6_ k_) ∨ w.heap.size ≤ k_) ∧ k_ ≠ gb442)) (Vu HO3_6) hg hat)
  have n3_ := o_ (blk_grown (g := gb442) (o := .cells #[.int .i64 a3_0, .int .i64 a3_1, .int .i64 a3_2, .int .i64 a3_3, .string a3_4, .string a3_5, .slice A3_6 l3_6.length c3_6] 33 (0, 0)) (bu BK442) hg (Kd.N_away HO445.out (fun _ hk => hk.2)))
  have n4_ := o_ (Kd.V_afterv (ok := (fun k_ => ((P0_ k_ ∨ P1_ k_ ∨ P3_6_ k_) ∨ w.heap.size ≤ k_) ∧ k_ ≠ gb442)) (Vu HO453) hg hat)
  have n5_ := o_ (hb)
  have n6_ := o_ (ho)
  clear HO0
  clear HO1
  clear HO3_6
  clear BK442
  clear HO453
  clear HB
  clear HO445
  have HO0 := n0_
  have HO1 := n1_
  have HO3_6 := n2_
  have BK442 := n3_
  have HO453 := n4_
  have HB := n5_
  have HO448 := n6_
  clear n0_ n1_ n2_ n3_ n4_ n5_ n6_
  clear ho hb hg hat
  refine hK.out _ _ trivial (fun hHeld => ?_)
  clear hK K
  refine norm_ (a' := ?_) ?_ ?_
  rotate_left
  ·show Act.put _ (some 12) _ = _
   simp only [Act.put, List.setIfInBounds_toArray, List.set_cons_zero, List.set_cons_succ, i64_w, i32_w]
   rfl
  refine one_ (i := 6) (N := some 16) #[true, true, true, true, true, true, true, false] rfl rfl (one_of HT_.out (by kernel_rfl)) (by decide) (fun K hK => ?_)
  refine Kd.N_append_rows_step k33 (w0 := w) w.heap.size (by rfl) (.tmp 12) (.tmp 15) 23 33 (.agg #[(.int .i64 0), (.int .i64 0), (.int .i64 0), (.int .i64 0), (.string ⟨#[]⟩), (.string ⟨#[]⟩), (.slice none 0 0)]) 88 rfl Try.underlying23 info33 rfl (by decide) (by omega) v447 y446 y449 _ _ _ (fun k_ => ((P0_ k_ ∨ P1_ k_ ∨ P3_6_ k_) ∨ w.heap.size ≤ k_) ∧ k_ ≠ gb442) (fun k_ => ((fun k_ => ((P0_ k_ ∨ P1_ k_ ∨ P3_6_ k_) ∨ w.heap.size ≤ k_) ∧ k_ ≠ gb442)) k_ ∧ some k_ ≠ (v447 : Value).ownBlock) rfl rfl ?aO ?aR (fun _ hk => hk) ?aF ?aB ?aS ?aL ?_
  (case aR => exact (by skip; exact Kd.V_F (Kd.V_mono (ok' := (fun k_ => ((fun k_ => ((P0_ k_ ∨ P1_ k_ ∨ P3_6_ k_) ∨ w.heap.size ≤ k_) ∧ k_ ≠ gb442)) k_ ∧ some k_ ≠ (v447 : Value).ownBlock)) (HO453.out) (fun k_ hk => ⟨⟨hk.1.1, hk.1.2⟩, hk.2⟩))))
  (case aB => exact (bl HB))
  (case aF => exact (fun k_ hk => ⟨(.inr (Nat.le_trans (below_size (bl HB)) hk)), Kd.freshB (g := gb442) (o := .cells #[.int .i64 a3_0, .int .i64 a3_1, .int .i64 a3_2, .int .i64 a3_3, .string a3_4, .string a3_5, .slice A3_6 l3_6.length c3_6] 33 (0, 0)) (bu BK442) k_ hk⟩))
  (case aO => exact (Nu HO448))
  (case aS => exact (below_size (bl HB)))
  (case aL => have := LMc8.out; omega)
  intro v455 w26 ho hb hg hat
  rw [← Ny454.out] at ho
  have n0_ := o_ (Kd.V_afterv (ok := (fun k_ => ((P0_ k_ ∨ P1_ k_ ∨ P3_6_ k_) ∨ w.heap.size ≤ k_) ∧ k_ ≠ gb442)) (Vu HO0) hg hat)
  have n1_ := o_ (Kd.V_afterv (ok := (fun k_ => ((P0_ k_ ∨ P1_ k_ ∨ P3_6_ k_) ∨ w.heap.size ≤ k_) ∧ k_ ≠ gb442)) (Vu HO1) hg hat)
  have n2_ := o_ (Kd.V_afterv (ok := (fun k_ => ((P0_ k_ ∨ P1_ k_ ∨ P3_6_ k_) ∨ w.heap.size ≤ k_) ∧ k_ ≠ gb442)) (Vu HO3_6) hg hat)
  have n3_ := o_ (blk_grown (g := gb442) (o := .cells #[.int .i64 a3_0, .int .i64 a3_1, .int .i64 a3_2, .int .i64 a3_3, .string a3_4, .string a3_5, .slice A3_6 l3_6.length c3_6] 33 (0, 0)) (bu BK442) hg (Kd.N_away HO448.out (fun _ hk => hk.2)))
  have n4_ := o_ (Kd.V_afterv (ok := (fun k_ => ((P0_ k_ ∨ P1_ k_ ∨ P3_6_ k_) ∨ w.heap.size ≤ k_) ∧ k_ ≠ gb442)) (Vu HO453) hg hat)
  have n5_ := o_ (hb)
  have n6_ := o_ (ho)
  clear HO0
  clear HO1
  clear HO3_6
  clear BK442
  clear HO453
  clear HB
  clear HO448
  have HO0 := n0_
  have HO1 := n1_
  have HO3_6 := n2_
  have BK442 := n3_
  have HO453 := n4_
  have HB := n5_
  have HO456 := n6_
  clear n0_ n1_ n2_ n3_ n4_ n5_ n6_
  clear ho hb hg hat
  refine hK.out _ _ trivial (fun hHeld => ?_)
  clear hK K
  refine norm_ (a' := ?_) ?_ ?_
  rotate_left
  ·show Act.put _ (some 16) _ = _
   simp only [Act.put, List.setIfInBounds_toArray, List.set_cons_zero, List.set_cons_succ, i64_w, i32_w]
   rfl
  refine pu 7 9 HT_ (h := ?_)
  refine done_ (done_of HT_.out (by kernel_rfl)) ?_
  have z27 := box7 BK442
  try go_wp2
  go_ret
  exact ⟨_, by first | rfl | (simp [*] <;> rfl), by (with_reducible repeat (first | apply Kd.N_alloc | apply Kd.N_drewN | apply Kd.N_drew)); exact Kd.N_mono HO456.out (fun _ hk => hk.1), bl HB⟩
 rw [if_pos c9] at H
 have c9b0 : (a3_0 == 0) = true := beq_iff_eq.mpr c9
 have c9b1 : (a3_0 != 0) = false := bne_eq_false_iff_eq.mpr c9
 clear c9
 by_cases c10 : y454.length < 1599289640401
 rotate_left
 ·rw [if_neg c10] at H
  exact absurd H (by simp)
 rw [if_pos c10] at H
 have LMc10 := o_ c10
 clear c10
 obtain ⟨y457, hy457⟩ : ∃ y_ : List (S33), y_ = (y454 ++ [(⟨a3_0, a3_1, a3_2, a3_3, a3_4, a3_5, l3_6⟩ : S33)]) := ⟨_, rfl⟩
 replace H : (some y457) = some r := by first | (rw [hy457]; with_reducible exact H) | (have H2_ := (Option.bind_some _ _).symm.trans H; rw [hy457]; with_reducible exact H2_) | (have H2_ := (Option.bind_some _ _).symm.trans H; with_reducible exact H2_) | with_reducible exact H | (rw [hy457]; exact H) | exact H
 have Ny457 := o_ hy457
 clear hy457
 obtain rfl := Option.some.inj H
 go_enter Try.func81, Try.ntmps81
 try go_wp2_with (first | ((with_reducible refine gate_dst (N := 7) rfl ?_); refine box_event ?hg (N := 7) ?hd (cs := #[.int .i64 a3_0, .int .i64 a3_1, .int .i64 a3_2, .int .i64 a3_3, .string a3_4, .string a3_5, .slice A3_6 l3_6.length c3_6]) (t := 33) ?hr ?_; (case hd => rfl); (case hg => rfl); (case hr => first | (go_simp; done) | (go_simp; rfl)); intro gb442 hg w11 hbox hb; have n0_ := o_ (Kd.V_below (Kd.V_elderB (Vu HO0) gb442 (Nat.le_of_eq hg.symm)) hb); have n1_ := o_ (Kd.V_below (Kd.V_elderB (Vu HO1) gb442 (Nat.le_of_eq hg.symm)) hb); have n2_ := o_ (Kd.V_below (Kd.V_elderB (Vu HO3_6) gb442 (Nat.le_of_eq hg.symm)) hb); have n3_ := o_ (below_step (bl HB) hb); have n4_ := o_ (hbox); have n5_ := o_ ((by rw [hg]; exact (below_size (bl HB)) : w.heap.size ≤ gb442)); have n6_ := o_ ((by rw [hg]; exact (below_size (bl HB)) : w.heap.size ≤ gb442)); clear HO0; clear HO1; clear HO3_6; clear HB; have HO0 := n0_; have HO1 := n1_; have HO3_6 := n2_; have HB := n3_; have BK442 := n4_; have GW442 := n5_; have GE442 := n6_; clear n0_ n1_ n2_ n3_ n4_ n5_ n6_; clear hb hbox hg))
 have n0_ := o_ (Kd.V_drew HO0.out)
 have n1_ := o_ (Kd.V_drew HO1.out)
 have n2_ := o_ (Kd.V_drew HO3_6.out)
 have n3_ := o_ (blk_drew BK442.out)
 have n4_ := o_ (below_drew1 HB.out)
 clear HO0
 clear HO1
 clear HO3_6
 clear BK442
 clear HB
 have HO0 := n0_
 have HO1 := n1_
 have HO3_6 := n2_
 have BK442 := n3_
 have HB := n4_
 clear n0_ n1_ n2_ n3_ n4_
 have q13 : (a2 : Int) ≤ ((l1.length : Int) : Int) := oa
 obtain ⟨i013, hi013, _, hsz13, _⟩ := info_parts info33
 have hroom13 : l1.length ≤ c1 := (Kd.V_reads' HO1.out).2.1
 have hC13 : Kd.F k33 _ _ A1 l1.length l1 := (Kd.V_at (base := w.heap.size) HO1.out).2.2
 have hcut13 := cut_to (P := Try.prog) 23 33 .i64 Try.underlying23 hi013 A1 l1.length c1 a2 (oa) q13 hroom13
 have hr13 := Kd.F_take (m := (a2 : Int).toNat) hC13 (by omega)
 have hy13 : y449.length = (a2 : Int).toNat := (by rw [Ny449.out, List.length_take]; omega)
 rw [← Ny449.out] at hr13
 rw [← hy13] at hcut13
 have HO453 := o_ (show Kd.V k33 33 _ w.heap.size _ (.slice A1 y449.length c1) y449 from Kd.V_mk (by omega) hr13)
 have HC453 := o_ (show y449.length ≤ c1 from by omega)
 clear hr13 hC13 hroom13 hi013 hsz13
 have KY13 := o_ hy13
 clear hy13
 replace q13 := eq_true q13
 refine start_ (n := 8) (S := fun w' => True) (ds := []) #[false, false, false, false, false, false, false, false] (by kernel_rfl) rfl rfl trivial (fun hHeld => ?_); refine with_tabW r_cut.tab1 r_cut.bits1 (fun HT_ HW_ => ?_)
 generalize w11.drew = w12 at HO0 HO1 HO3_6 BK442 HB HO453 hHeld ⊢
 refine pu 1 11 HT_ (h := ?_)
 refine pu 3 13 HT_ (h := ?_)
 refine pu 4 14 HT_ (h := ?_)
 refine pu 5 15 HT_ (h := ?_)
 refine one_ (i := 0) (N := some 10) #[true, true, false, true, true, true, false, false] rfl rfl (one_of HT_.out (by kernel_rfl)) (by decide) (fun K hK => ?_)
 refine Kd.N_lit_step k33 _ 33 ?hg (N' := 10) ?hd (xs := ([] : List (S33))) (inner := []) (ok := (fun k_ => ((P0_ k_ ∨ P1_ k_ ∨ P3_6_ k_) ∨ w.heap.size ≤ k_) ∧ k_ ≠ gb442)) (okp := (fun k_ => ((P0_ k_ ∨ P1_ k_ ∨ P3_6_ k_) ∨ w.heap.size ≤ k_) ∧ k_ ≠ gb442)) ?hr ?hp (fun _ hk => hk) ((show ∀ k_, w12.heap.size ≤ k_ → (fun k_ => ((P0_ k_ ∨ P1_ k_ ∨ P3_6_ k_) ∨ w.heap.size ≤ k_) ∧ k_ ≠ gb442) k_ from fun k_ hk => ⟨(.inr (Nat.le_trans (below_size (bl HB)) hk)), Kd.freshB (g := gb442) (o := .cells #[.int .i64 a3_0, .int .i64 a3_1, .int .i64 a3_2, .int .i64 a3_3, .string a3_4, .string a3_5, .slice A3_6 l3_6.length c3_6] 33 (0, 0)) (bu BK442) k_ hk⟩) _ (Nat.le_refl _)) (Below.refl _ _) (Nat.le_refl _) (by simp) ?_; (case hd => rfl); (case hg => rfl); (case hr => first | (go_simp; done) | (go_simp; rfl)); (case hp => exact (Reps.none _ _))
 intro v444 w14 ho15 hb hg_ hnew_
 clear hg_ hnew_
 (first | rw [← Ny443.out] at ho15 | (simp only [Int.reduceToNat] at ho15; rw [← Ny443.out] at ho15))
 have n0_ := o_ (Kd.V_elder' (Vu HO0) (Kd.N_base ho15) hb)
 have n1_ := o_ (Kd.V_elder' (Vu HO1) (Kd.N_base ho15) hb)
 have n2_ := o_ (Kd.V_elder' (Vu HO3_6) (Kd.N_base ho15) hb)
 have n3_ := o_ (Kd.V_elder' (Vu HO453) (Kd.N_base ho15) hb)
 have n4_ := o_ (Kd.N_lower ho15 (below_size (bl HB)))
 have n5_ := o_ (blk_below (g := gb442) (o := .cells #[.int .i64 a3_0, .int .i64 a3_1, .int .i64 a3_2, .int .i64 a3_3, .string a3_4, .string a3_5, .slice A3_6 l3_6.length c3_6] 33 (0, 0)) (bu BK442) hb)
 have n6_ := o_ (below_step (bl HB) hb)
 clear HO0
 clear HO1
 clear HO3_6
 clear HO453
 clear BK442
 clear HB
 have HO0 := n0_
 have HO1 := n1_
 have HO3_6 := n2_
 have HO453 := n3_
 have HO445 := n4_
 have BK442 := n5_
 have HB := n6_
 clear n0_ n1_ n2_ n3_ n4_ n5_ n6_
 clear hb ho15
 refine hK.out _ _ trivial (fun hHeld => ?_)
 clear hK K
 refine norm_ (a' := ?_) ?_ ?_
 rotate_left
 ·show Act.put _ (some 10) _ = _
  simp only [Act.put, List.setIfInBounds_toArray, List.set_cons_zero, List.set_cons_succ, i64_w, i32_w]
  rfl
 refine one_ (i := 2) (N := some 12) #[true, true, true, true, true, true, false, false] rfl rfl (one_of HT_.out (by kernel_rfl)) (by decide) (fun K hK => ?_)
 refine Kd.N_append_rows_step k33 (w0 := w) w.heap.size (by rfl) (.tmp 10) (.tmp 11) 23 33 (.agg #[(.int .i64 0), (.int .i64 0), (.int .i64 0), (.int .i64 0), (.string ⟨#[]⟩), (.string ⟨#[]⟩), (.slice none 0 0)]) 88 rfl Try.underlying23 info33 rfl (by decide) (by omega) v444 y443 l0 _ _ _ (fun k_ => ((P0_ k_ ∨ P1_ k_ ∨ P3_6_ k_) ∨ w.heap.size ≤ k_) ∧ k_ ≠ gb442) (fun k_ => ((fun k_ => ((P0_ k_ ∨ P1_ k_ ∨ P3_6_ k_) ∨ w.heap.size ≤ k_) ∧ k_ ≠ gb442)) k_ ∧ some k_ ≠ (v444 : Value).ownBlock) rfl rfl ?aO ?aR (fun _ hk => hk) ?aF ?aB ?aS ?aL ?_
 (case aR => exact (by skip; exact Kd.V_F (Kd.V_mono (ok' := (fun k_ => ((fun k_ => ((P0_ k_ ∨ P1_ k_ ∨ P3_6_ k_) ∨ w.heap.size ≤ k_) ∧ k_ ≠ gb442)) k_ ∧ some k_ ≠ (v444 : Value).ownBlock)) (HO0.out) (fun k_ hk => ⟨⟨hk.1.1, hk.1.2⟩, hk.2⟩))))
 (case aB => exact (bl HB))
 (case aF => exact (fun k_ hk => ⟨(.inr (Nat.le_trans (below_size (bl HB)) hk)), Kd.freshB (g := gb442) (o := .cells #[.int .i64 a3_0, .int .i64 a3_1, .int .i64 a3_2, .int .i64 a3_3, .string a3_4, .string a3_5, .slice A3_6 l3_6.length c3_6] 33 (0, 0)) (bu BK442) k_ hk⟩))
 (case aO => exact (Nu HO445))
 (case aS => exact (below_size (bl HB)))
 (case aL => have := LMc5.out; omega)
 intro v447 w16 ho hb hg hat
 rw [← Ny446.out] at ho
 have n0_ := o_ (Kd.V_afterv (ok := (fun k_ => ((P0_ k_ ∨ P1_ k_ ∨ P3_6_ k_) ∨ w.heap.size ≤ k_) ∧ k_ ≠ gb442)) (Vu HO0) hg hat)
 have n1_ := o_ (Kd.V_afterv (ok := (fun k_ => ((P0_ k_ ∨ P1_ k_ ∨ P3_6_ k_) ∨ w.heap.size ≤ k_) ∧ k_ ≠ gb442)) (Vu HO1) hg hat)
 have n2_ := o_ (Kd.V_afterv (ok := (fun k_ => ((P0_ k_ ∨ P1_ k_ ∨ P3_6_ k_) ∨ w.heap.size ≤ k_) ∧ k_ ≠ gb442)) (Vu HO3_6) hg hat)
 have n3_ := o_ (blk_grown (g := gb442) (o := .cells #[.int .i64 a3_0, .int .i64 a3_1, .int .i64 a3_2, .int .i64 a3_3, .string a3_4, .string a3_5, .slice A3_6 l3_6.length c3_6] 33 (0, 0)) (bu BK442) hg (Kd.N_away HO445.out (fun _ hk => hk.2)))
 have n4_ := o_ (Kd.V_afterv (ok := (fun k_ => ((P0_ k_ ∨ P1_ k_ ∨ P3_6_ k_) ∨ w.heap.size ≤ k_) ∧ k_ ≠ gb442)) (Vu HO453) hg hat)
 have n5_ := o_ (hb)
 have n6_ := o_ (ho)
 clear HO0
 clear HO1
 clear HO3_6
 clear BK442
 clear HO453
 clear HB
 clear HO445
 have HO0 := n0_
 have HO1 := n1_
 have HO3_6 := n2_
 have BK442 := n3_
 have HO453 := n4_
 have HB := n5_
 have HO448 := n6_
 clear n0_ n1_ n2_ n3_ n4_ n5_ n6_
 clear ho hb hg hat
 refine hK.out _ _ trivial (fun hHeld => ?_)
 clear hK K
 refine norm_ (a' := ?_) ?_ ?_
 rotate_left
 ·show Act.put _ (some 12) _ = _
  simp only [Act.put, List.setIfInBounds_toArray, List.set_cons_zero, List.set_cons_succ, i64_w, i32_w]
  rfl
 refine one_ (i := 6) (N := some 16) #[true, true, true, true, true, true, true, false] rfl rfl (one_of HT_.out (by kernel_rfl)) (by decide) (fun K hK => ?_)
 refine Kd.N_append_rows_step k33 (w0 := w) w.heap.size (by rfl) (.tmp 12) (.tmp 15) 23 33 (.agg #[(.int .i64 0), (.int .i64 0), (.int .i64 0), (.int .i64 0), (.string ⟨#[]⟩), (.string ⟨#[]⟩), (.slice none 0 0)]) 88 rfl Try.underlying23 info33 rfl (by decide) (by omega) v447 y446 y449 _ _ _ (fun k_ => ((P0_ k_ ∨ P1_ k_ ∨ P3_6_ k_) ∨ w.heap.size ≤ k_) ∧ k_ ≠ gb442) (fun k_ => ((fun k_ => ((P0_ k_ ∨ P1_ k_ ∨ P3_6_ k_) ∨ w.heap.size ≤ k_) ∧ k_ ≠ gb442)) k_ ∧ some k_ ≠ (v447 : Value).ownBlock) rfl rfl ?aO ?aR (fun _ hk => hk) ?aF ?aB ?aS ?aL ?_
 (case aR => exact (by skip; exact Kd.V_F (Kd.V_mono (ok' := (fun k_ => ((fun k_ => ((P0_ k_ ∨ P1_ k_ ∨ P3_6_ k_) ∨ w.heap.size ≤ k_) ∧ k_ ≠ gb442)) k_ ∧ some k_ ≠ (v447 : Value).ownBlock)) (HO453.out) (fun k_ hk => ⟨⟨hk.1.1, hk.1.2⟩, hk.2⟩))))
 (case aB => exact (bl HB))
 (case aF => exact (fun k_ hk => ⟨(.inr (Nat.le_trans (below_size (bl HB)) hk)), Kd.freshB (g := gb442) (o := .cells #[.int .i64 a3_0, .int .i64 a3_1, .int .i64 a3_2, .int .i64 a3_3, .string a3_4, .string a3_5, .slice A3_6 l3_6.length c3_6] 33 (0, 0)) (bu BK442) k_ hk⟩))
 (case aO => exact (Nu HO448))
 (case aS => exact (below_size (bl HB)))
 (case aL => have := LMc8.out; omega)
 intro v455 w17 ho hb hg hat
 rw [← Ny454.out] at ho
 have n0_ := o_ (Kd.V_afterv (ok := (fun k_ => ((P0_ k_ ∨ P1_ k_ ∨ P3_6_ k_) ∨ w.heap.size ≤ k_) ∧ k_ ≠ gb442)) (Vu HO0) hg hat)
 have n1_ := o_ (Kd.V_afterv (ok := (fun k_ => ((P0_ k_ ∨ P1_ k_ ∨ P3_6_ k_) ∨ w.heap.size ≤ k_) ∧ k_ ≠ gb442)) (Vu HO1) hg hat)
 have n2_ := o_ (Kd.V_afterv (ok := (fun k_ => ((P0_ k_ ∨ P1_ k_ ∨ P3_6_ k_) ∨ w.heap.size ≤ k_) ∧ k_ ≠ gb442)) (Vu HO3_6) hg hat)
 have n3_ := o_ (blk_grown (g := gb442) (o := .cells #[.int .i64 a3_0, .int .i64 a3_1, .int .i64 a3_2, .int .i64 a3_3, .string a3_4, .string a3_5, .slice A3_6 l3_6.length c3_6] 33 (0, 0)) (bu BK442) hg (Kd.N_away HO448.out (fun _ hk => hk.2)))
 have n4_ := o_ (Kd.V_afterv (ok := (fun k_ => ((P0_ k_ ∨ P1_ k_ ∨ P3_6_ k_) ∨ w.heap.size ≤ k_) ∧ k_ ≠ gb442)) (Vu HO453) hg hat)
 have n5_ := o_ (hb)
 have n6_ := o_ (ho)
 clear HO0
 clear HO1
 clear HO3_6
 clear BK442
 clear HO453
 clear HB
 clear HO448
 have HO0 := n0_
 have HO1 := n1_
 have HO3_6 := n2_
 have BK442 := n3_
 have HO453 := n4_
 have HB := n5_
 have HO456 := n6_
 clear n0_ n1_ n2_ n3_ n4_ n5_ n6_
 clear ho hb hg hat
 refine hK.out _ _ trivial (fun hHeld => ?_)
 clear hK K
 refine norm_ (a' := ?_) ?_ ?_
 rotate_left
 ·show Act.put _ (some 16) _ = _
  simp only [Act.put, List.setIfInBounds_toArray, List.set_cons_zero, List.set_cons_succ, i64_w, i32_w]
  rfl
 refine pu 7 9 HT_ (h := ?_)
 refine done_ (done_of HT_.out (by kernel_rfl)) ?_
 have z18 := box7 BK442
 try go_wp2_with (first | ((with_reducible refine gate_builtin (b := .append) (xs := #[.tmp 20, .tmp 22]) rfl ?_); at_builtin; refine Kd.N_append k33 (w0 := w) w.heap.size rfl (.tmp 20) (.tmp 22) 23 33 (.agg #[(.int .i64 0), (.int .i64 0), (.int .i64 0), (.int .i64 0), (.string ⟨#[]⟩), (.string ⟨#[]⟩), (.slice none 0 0)]) 88 rfl Try.underlying23 info33 rfl (by decide) (by omega) v455 y454 (⟨a3_0, a3_1, a3_2, a3_3, a3_4, a3_5, l3_6⟩ : S33) [.int .i64 a3_0, .int .i64 a3_1, .int .i64 a3_2, .int .i64 a3_3, .string a3_4, .string a3_5, .slice A3_6 l3_6.length c3_6] (fun k_ => ((P0_ k_ ∨ P1_ k_ ∨ P3_6_ k_) ∨ w.heap.size ≤ k_) ∧ k_ ≠ gb442) (fun k_ => ((fun k_ => ((P0_ k_ ∨ P1_ k_ ∨ P3_6_ k_) ∨ w.heap.size ≤ k_) ∧ k_ ≠ gb442)) k_ ∧ some k_ ≠ (v455 : Value).ownBlock) rfl rfl ?aP (fun _ hk => hk) ?aF ?aO ?aB ?aS ?aL ?_; (case aP => exact (k33_mkF _ _ (⟨a3_0, a3_1, a3_2, a3_3, a3_4, a3_5, l3_6⟩ : S33) (Kd.V_reads' (Kd.V_mono (ok' := (fun k_ => ((fun k_ => ((P0_ k_ ∨ P1_ k_ ∨ P3_6_ k_) ∨ w.heap.size ≤ k_) ∧ k_ ≠ gb442)) k_ ∧ some k_ ≠ (v455 : Value).ownBlock)) (HO3_6.out) (fun k_ hk => ⟨⟨hk.1.1, hk.1.2⟩, hk.2⟩))).2.1 (Kd.V_F (Kd.V_mono (ok' := (fun k_ => ((fun k_ => ((P0_ k_ ∨ P1_ k_ ∨ P3_6_ k_) ∨ w.heap.size ≤ k_) ∧ k_ ≠ gb442)) k_ ∧ some k_ ≠ (v455 : Value).ownBlock)) (HO3_6.out) (fun k_ hk => ⟨⟨hk.1.1, hk.1.2⟩, hk.2⟩))))); (case aB => exact (bl HB)); (case aF => exact (fun k_ hk => ⟨(.inr (Nat.le_trans (below_size (bl HB)) hk)), Kd.freshB (g := gb442) (o := .cells #[.int .i64 a3_0, .int .i64 a3_1, .int .i64 a3_2, .int .i64 a3_3, .string a3_4, .string a3_5, .slice A3_6 l3_6.length c3_6] 33 (0, 0)) (bu BK442) k_ hk⟩)); (case aO => exact (Nu HO456)); (case aS => exact (below_size (bl HB))); (case aL => have := LMc10.out; omega); intro v458 w19 ho hb hg hat; rw [← Ny457.out] at ho; have n0_ := o_ (Kd.V_afterv (ok := (fun k_ => ((P0_ k_ ∨ P1_ k_ ∨ P3_6_ k_) ∨ w.heap.size ≤ k_) ∧ k_ ≠ gb442)) (Vu HO0) hg hat); have n1_ := o_ (Kd.V_afterv (ok := (fun k_ => ((P0_ k_ ∨ P1_ k_ ∨ P3_6_ k_) ∨ w.heap.size ≤ k_) ∧ k_ ≠ gb442)) (Vu HO1) hg hat); have n2_ := o_ (Kd.V_afterv (ok := (fun k_ => ((P0_ k_ ∨ P1_ k_ ∨ P3_6_ k_) ∨ w.heap.size ≤ k_) ∧ k_ ≠ gb442)) (Vu HO3_6) hg hat); have n3_ := o_ (blk_grown (g := gb442) (o := .cells #[.int .i64 a3_0, .int .i64 a3_1, .int .i64 a3_2, .int .i64 a3_3, .string a3_4, .string a3_5, .slice A3_6 l3_6.length c3_6] 33 (0, 0)) (bu BK442) hg (Kd.N_away HO456.out (fun _ hk => hk.2))); have n4_ := o_ (Kd.V_afterv (ok := (fun k_ => ((P0_ k_ ∨ P1_ k_ ∨ P3_6_ k_) ∨ w.heap.size ≤ k_) ∧ k_ ≠ gb442)) (Vu HO453) hg hat); have n5_ := o_ (hb); have n6_ := o_ (ho); clear HO0; clear HO1; clear HO3_6; clear BK442; clear HO453; clear HB; clear HO456; have HO0 := n0_; have HO1 := n1_; have HO3_6 := n2_; have BK442 := n3_; have HO453 := n4_; have HB := n5_; have HO459 := n6_; clear n0_ n1_ n2_ n3_ n4_ n5_ n6_; clear ho hb hg hat))
 go_ret
 exact ⟨_, by first | rfl | (simp [*] <;> rfl), by (with_reducible repeat (first | apply Kd.N_alloc | apply Kd.N_drewN | apply Kd.N_drew)); exact Kd.N_mono HO459.out (fun _ hk => hk.1), bl HB⟩
mutual
def r_places.l0 : Nat → List (S33) → List Int → Int → Option (List Int)
 | 0, _, _, _ => none
 | k + 1, x0, x3, x4 => if x4 < (x0.length : Int) then (if 0 ≤ x4 then (if ((rT x0 x4).f0) = 5 then (r_places.l1 k x0 x3 x4 false false 0) else (r_places.l0 k x0 x3 (wrap64 (x4 + 1)))) else (none)) else (some x3)
def r_places.l1 : Nat → List (S33) → List Int → Int → Bool → Bool → Int → Option (List Int)
 | 0, _, _, _, _, _, _ => none
 | k + 1, x0, x3, x4, x5, x6, x7 => if x7 < (x0.length : Int) then (if 0 ≤ x7 then (if ((rT x0 x7).f0) = 5 then (r_places.l1 k x0 x3 x4 x5 x6 (wrap64 (x7 + 1))) else (if x5 = true then (if x6 = true then (r_places.l1 k x0 x3 x4 true true (wrap64 (x7 + 1))) else (r_places.l1 k x0 x3 x4 true (decide (x7 > x4)) (wrap64 (x7 + 1)))) else (if x6 = true then (r_places.l1 k x0 x3 x4 (decide (x7 < x4)) true (wrap64 (x7 + 1))) else (r_places.l1 k x0 x3 x4 (decide (x7 < x4)) (decide (x7 > x4)) (wrap64 (x7 + 1)))))) else (none)) else (if x5 = true then (if x6 = true then (if x3.length < 17592186044416 then (r_places.l0 k x0 (x3 ++ [x4]) (wrap64 (x4 + 1))) else (none)) else (r_places.l0 k x0 x3 (wrap64 (x4 + 1)))) else (r_places.l0 k x0 x3 (wrap64 (x4 + 1))))
end
def r_places.f (k : Nat) (l0 : List (S33)) : Option (List Int) := r_places.l0 k l0 ([] : List Int) 0
theorem r_places.calls (k : Nat) (A0 : Option Addr) (c0 : Nat) (l0 : List (S33)) (r : List Int) (w : World) (hr0 : Kd.C k33 w A0 l0.length l0) (hc0 : l0.length ≤ c0) (h : r_places.f k l0 = some r) :
  Calls Try.prog 80 #[.slice A0 l0.length c0] w fun e w' => ∃ v0_ : Value, e = .returned (v0_) ∧ Kd.R (Kd.int .i64) 3 w' w.heap.size (fun _ => True) v0_ r ∧ Below w.heap.size w w' := by
 have HR0 := o_ hr0
 have HC0 := o_ hc0
 clear hr0 hc0
 have HB := o_ (Below.refl w.heap.size w)
 have H : (r_places.l0 k l0 ([] : List Int) 0) = some r := h
 clear h
 have H' := o_ H
 clear H
 go_enter Try.func80, Try.ntmps80
 go_wp2
 go_loopg [3, 4] k (fun kq v3 v4 w' => ∃ (x3_1 : List Int) (x4_1 : Int), v4 = .int .i64 x4_1 ∧ As (r_places.l0 kq l0 x3_1 x4_1 = some r) ∧ As (kq ≤ k) ∧ As (Kd.R (Kd.int .i64) 3 w' w.heap.size (fun _ => True) v3 x3_1) ∧ As (Below w.heap.size w w'))
 case atStart => exact ⟨(([] : List Int)), (0), (by first | rfl | simp [*]), H', ⟨Nat.le_refl _⟩, ⟨by first | exact Kd.R_nil _ _ _ _ _ | exact Kd.N_nil _ _ _ _ _ | exact Kd.V_nil _ _ _ _ _ | exact Kd.Q_nil _ _ _ _ _ | exact Kd.S_nil _ _ _ _ _⟩, ⟨bl HB⟩⟩
 case round =>
  clear H'
  obtain ⟨x3_1, x4_1, rfl, HA, HK1, HO_3, HB⟩ := hrel
  cases gk with
  | zero => exact absurd HA.out (by simp [r_places.l0])
  | succ k1 =>
   have H := HA.out
   clear HA
   simp only [r_places.l0] at H
   by_cases c2 : x4_1 < (l0.length : Int)
   rotate_left
   ·rw [if_neg c2] at H
    have c2b0 := decide_eq_false c2
    clear c2
    obtain rfl := Option.some.inj H
    go_wp2
    go_ret
    exact ⟨_, by first | rfl | (simp [*] <;> rfl), Ru HO_3, bl HB⟩
   rw [if_pos c2] at H
   have c2b0 := decide_eq_true c2
   clear c2
   by_cases c3 : 0 ≤ x4_1
   rotate_left
   ·rw [if_neg c3] at H
    exact absurd H (by simp)
   rw [if_pos c3] at H
   have c3b0 := decide_eq_true c3
   clear c3
   by_cases c4 : ((rT l0 x4_1).f0) = 5
   rotate_left
   ·rw [if_neg c4] at H
    have c4b0 : (((rT l0 x4_1).f0) == 5) = false := beq_eq_false_iff_ne.mpr c4
    have c4b1 : (((rT l0 x4_1).f0) != 5) = true := bne_iff_ne.mpr c4
    have H' := o_ H
    clear H
    have p437 : 0 ≤ (x4_1 : Int) := oa
    have q437 : x4_1 < (l0.length : Int) := oa
    obtain ⟨ad437, A437_6, c437_6, e437, hx437_0, hx437_1, hx437_2, hx437_3, hx437_4, hx437_5, hx437_6, hl437_6, hi437_6⟩ := aT HR0.out x4_1 p437 q437
    cases e437
    obtain ⟨hx437_0, hx437_1, hx437_2, hx437_3, hx437_4, hx437_5, hx437_6⟩ := ct7 HB hx437_0 hx437_1 hx437_2 hx437_3 hx437_4 hx437_5 hx437_6
    have HR437_6 := o_ hi437_6
    have HC437_6 := o_ hl437_6
    clear hi437_6 hl437_6
    replace p437 := eq_true p437
    replace q437 := eq_true q437
    go_wp2
    go_roundg k1
    case measure => have := HK1.out; omega
    case rel => exact ⟨(x3_1), (wrap64 (x4_1 + 1)), (by first | rfl | simp [*]), H', ⟨by have := HK1.out; omega⟩, ⟨Ru HO_3⟩, ⟨bl HB⟩⟩
   rw [if_pos c4] at H
   have c4b0 : (((rT l0 x4_1).f0) == 5) = true := beq_iff_eq.mpr c4
   have c4b1 : (((rT l0 x4_1).f0) != 5) = false := bne_eq_false_iff_eq.mpr c4
   clear c4
   have H' := o_ H
   clear H
   have p437 : 0 ≤ (x4_1 : Int) := oa
   have q437 : x4_1 < (l0.length : Int) := oa
   obtain ⟨ad437, A437_6, c437_6, e437, hx437_0, hx437_1, hx437_2, hx437_3, hx437_4, hx437_5, hx437_6, hl437_6, hi437_6⟩ := aT HR0.out x4_1 p437 q437
   cases e437
   obtain ⟨hx437_0, hx437_1, hx437_2, hx437_3, hx437_4, hx437_5, hx437_6⟩ := ct7 HB hx437_0 hx437_1 hx437_2 hx437_3 hx437_4 hx437_5 hx437_6
   have HR437_6 := o_ hi437_6
   have HC437_6 := o_ hl437_6
   clear hi437_6 hl437_6
   replace p437 := eq_true p437
   replace q437 := eq_true q437
   go_wp2
   go_loopg [5, 6, 7] k1 (fun kq v5 v6 v7 w' => ∃ (x5_2 : Bool) (x6_2 : Bool) (x7_2 : Int), v5 = .bool x5_2 ∧ v6 = .bool x6_2 ∧ v7 = .int .i64 x7_2 ∧ As (r_places.l1 kq l0 x3_1 x4_1 x5_2 x6_2 x7_2 = some r) ∧ As (kq ≤ k1) ∧ As (Kd.R (Kd.int .i64) 3 w' w.heap.size (fun _ => True) u3 x3_1) ∧ As (Below w.heap.size w w'))
   case atStart => exact ⟨(false), (false), (0), (by first | rfl | simp [*]), (by first | rfl | simp [*]), (by first | rfl | simp [*]), H', ⟨Nat.le_refl _⟩, ⟨Ru HO_3⟩, ⟨bl HB⟩⟩
   case round =>
    clear H'
    try clear q4
    try clear hx4
    try clear hx437_0
    try clear hx437_1
    try clear hx437_2
    try clear hx437_3
    try clear hx437_4
    try clear hx437_5
    try clear hx437_6
    try clear q437
    obtain ⟨x5_2, x6_2, x7_2, rfl, rfl, rfl, HA, HK2, HO_3, HB⟩ := hrel
    cases gk with
    | zero => exact absurd HA.out (by simp [r_places.l1])
    | succ k2 =>
     have H := HA.out
     clear HA
     simp only [r_places.l1] at H
     by_cases c5 : x7_2 < (l0.length : Int)
     rotate_left
     ·rw [if_neg c5] at H
      have c5b0 := decide_eq_false c5
      clear c5
      by_cases c11 : x5_2 = true
      rotate_left
      ·replace c11 := Bool.eq_false_iff.mpr c11
       subst c11
       have H1 : (r_places.l0 k2 l0 x3_1 (wrap64 (x4_1 + 1))) = some r := by rw [if_neg (show ¬ (false = true) by decide)] at H; exact H
       clear H
       have H := H1
       clear H1
       have H' := o_ H
       clear H
       go_wp2
       go_roundg k2
       case measure => have := HK1.out; have := HK2.out; omega
       case rel => exact ⟨(x3_1), (wrap64 (x4_1 + 1)), (by first | rfl | simp [*]), H', ⟨by have := HK1.out; have := HK2.out; omega⟩, ⟨Ru HO_3⟩, ⟨bl HB⟩⟩
      subst c11
      have H1 : (if x6_2 = true then (if x3_1.length < 17592186044416 then (r_places.l0 k2 l0 (x3_1 ++ [x4_1]) (wrap64 (x4_1 + 1))) else (none)) else (r_places.l0 k2 l0 x3_1 (wrap64 (x4_1 + 1)))) = some r := by rw [if_pos rfl] at H; exact H
      clear H
      have H := H1
      clear H1
      by_cases c12 : x6_2 = true
      rotate_left
      ·replace c12 := Bool.eq_false_iff.mpr c12
       subst c12
       have H1 : (r_places.l0 k2 l0 x3_1 (wrap64 (x4_1 + 1))) = some r := by rw [if_neg (show ¬ (false = true) by decide)] at H; exact H
       clear H
       have H := H1
       clear H1
       have H' := o_ H
       clear H
       go_wp2
       go_roundg k2
       case measure => have := HK1.out; have := HK2.out; omega
       case rel => exact ⟨(x3_1), (wrap64 (x4_1 + 1)), (by first | rfl | simp [*]), H', ⟨by have := HK1.out; have := HK2.out; omega⟩, ⟨Ru HO_3⟩, ⟨bl HB⟩⟩
      subst c12
      have H1 : (if x3_1.length < 17592186044416 then (r_places.l0 k2 l0 (x3_1 ++ [x4_1]) (wrap64 (x4_1 + 1))) else (none)) = some r := by rw [if_pos rfl] at H; exact H
      clear H
      have H := H1
      clear H1
      by_cases c13 : x3_1.length < 17592186044416
      rotate_left
      ·rw [if_neg c13] at H
       exact absurd H (by simp)
      rw [if_pos c13] at H
      have LMc13 := o_ c13
      clear c13
      obtain ⟨y439, hy439⟩ : ∃ y_ : List Int, y_ = (x3_1 ++ [x4_1]) := ⟨_, rfl⟩
      replace H : (r_places.l0 k2 l0 y439 (wrap64 (x4_1 + 1))) = some r := by first | (rw [hy439]; with_reducible exact H) | (have H2_ := (Option.bind_some _ _).symm.trans H; rw [hy439]; with_reducible exact H2_) | (have H2_ := (Option.bind_some _ _).symm.trans H; with_reducible exact H2_) | with_reducible exact H | (rw [hy439]; exact H) | exact H
      have Ny439 := o_ hy439
      clear hy439
      have H' := o_ H
      clear H
      go_wp2_with (first | ((with_reducible refine gate_builtin (b := .append) (xs := #[.tmp 48, .tmp 50]) rfl ?_); at_builtin; refine Kd.R_append (Kd.int .i64) (w0 := w) w.heap.size rfl (.tmp 48) (.tmp 50) 22 3 (.int .i64 0) 8 rfl Try.underlying22 info3 rfl (by decide) (by omega) u3 x3_1 x4_1 [.int .i64 x4_1] (fun _ => True) (fun _ => False) rfl rfl ?aP (fun _ hk => hk.elim) ?aF ?aO ?aB ?aS ?aL ?_; (case aP => exact rfl); (case aB => exact (bl HB)); (case aF => exact (fun _ _ => trivial)); (case aO => exact (Ru HO_3)); (case aS => exact (below_size (bl HB))); (case aL => have := LMc13.out; omega); intro v440 w14 ho hb hg hat; rw [← Ny439.out] at ho; have n0_ := o_ (hb); have n1_ := o_ (ho); clear HB; clear HO_3; have HB := n0_; have HO441 := n1_; clear n0_ n1_; clear ho hb hg hat))
      go_roundg k2
      case measure => have := HK1.out; have := HK2.out; omega
      case rel => exact ⟨(y439), (wrap64 (x4_1 + 1)), (by first | rfl | simp [*]), H', ⟨by have := HK1.out; have := HK2.out; omega⟩, ⟨Ru HO441⟩, ⟨bl HB⟩⟩
     rw [if_pos c5] at H
     have c5b0 := decide_eq_true c5
     clear c5
     by_cases c6 : 0 ≤ x7_2
     rotate_left
     ·rw [if_neg c6] at H
      exact absurd H (by simp)
     rw [if_pos c6] at H
     have c6b0 := decide_eq_true c6
     clear c6
     by_cases c7 : ((rT l0 x7_2).f0) = 5
     ·rw [if_pos c7] at H
      have c7b0 : (((rT l0 x7_2).f0) == 5) = true := beq_iff_eq.mpr c7
      have c7b1 : (((rT l0 x7_2).f0) != 5) = false := bne_eq_false_iff_eq.mpr c7
      clear c7
      have H' := o_ H
      clear H
      have p438 : 0 ≤ (x7_2 : Int) := oa
      have q438 : x7_2 < (l0.length : Int) := oa
      obtain ⟨ad438, A438_6, c438_6, e438, hx438_0, hx438_1, hx438_2, hx438_3, hx438_4, hx438_5, hx438_6, hl438_6, hi438_6⟩ := aT HR0.out x7_2 p438 q438
      obtain rfl : ad437 = ad438 := (by injection e438)
      obtain ⟨hx438_0, hx438_1, hx438_2, hx438_3, hx438_4, hx438_5, hx438_6⟩ := ct7 HB hx438_0 hx438_1 hx438_2 hx438_3 hx438_4 hx438_5 hx438_6
      have HR438_6 := o_ hi438_6
      have HC438_6 := o_ hl438_6
      clear hi438_6 hl438_6
      replace p438 := eq_true p438
      replace q438 := eq_true q438
      go_wp2
      go_roundg k2
      case measure => have := HK1.out; have := HK2.out; omega
      case rel => exact ⟨(x5_2), (x6_2), (wrap64 (x7_2 + 1)), (by first | rfl | simp [*]), (by first | rfl | simp [*]), (by first | rfl | simp [*]), H', ⟨by have := HK1.out; have := HK2.out; omega⟩, ⟨Ru HO_3⟩, ⟨bl HB⟩⟩
     rw [if_neg c7] at H
     have c7b0 : (((rT l0 x7_2).f0) == 5) = false := beq_eq_false_iff_ne.mpr c7
     have c7b1 : (((rT l0 x7_2).f0) != 5) = true := bne_iff_ne.mpr c7
     by_cases c8 : x5_2 = true
     ·subst c8
      have H1 : (if x6_2 = true then (r_places.l1 k2 l0 x3_1 x4_1 true true (wrap64 (x7_2 + 1))) else (r_places.l1 k2 l0 x3_1 x4_1 true (decide (x7_2 > x4_1)) (wrap64 (x7_2 + 1)))) = some r := by rw [if_pos rfl] at H; exact H
      clear H
      have H := H1
      clear H1
      by_cases c9 : x6_2 = true
      ·subst c9
       have H1 : (r_places.l1 k2 l0 x3_1 x4_1 true true (wrap64 (x7_2 + 1))) = some r := by rw [if_pos rfl] at H; exact H
       clear H
       have H := H1
       clear H1
       have H' := o_ H
       clear H
       have p438 : 0 ≤ (x7_2 : Int) := oa
       have q438 : x7_2 < (l0.length : Int) := oa
       obtain ⟨ad438, A438_6, c438_6, e438, hx438_0, hx438_1, hx438_2, hx438_3, hx438_4, hx438_5, hx438_6, hl438_6, hi438_6⟩ := aT HR0.out x7_2 p438 q438
       obtain rfl : ad437 = ad438 := (by injection e438)
       obtain ⟨hx438_0, hx438_1, hx438_2, hx438_3, hx438_4, hx438_5, hx438_6⟩ := ct7 HB hx438_0 hx438_1 hx438_2 hx438_3 hx438_4 hx438_5 hx438_6
       have HR438_6 := o_ hi438_6
       have HC438_6 := o_ hl438_6
       clear hi438_6 hl438_6
       replace p438 := eq_true p438
       replace q438 := eq_true q438
       go_wp2
       go_roundg k2
       case measure => have := HK1.out; have := HK2.out; omega
       case rel => exact ⟨(true), (true), (wrap64 (x7_2 + 1)), (by first | rfl | simp [*]), (by first | rfl | simp [*]), (by first | rfl | simp [*]), H', ⟨by have := HK1.out; have := HK2.out; omega⟩, ⟨Ru HO_3⟩, ⟨bl HB⟩⟩
      replace c9 := Bool.eq_false_iff.mpr c9
      subst c9
      have H1 : (r_places.l1 k2 l0 x3_1 x4_1 true (decide (x7_2 > x4_1)) (wrap64 (x7_2 + 1))) = some r := by rw [if_neg (show ¬ (false = true) by decide)] at H; exact H
      clear H
      have H := H1
      clear H1
      have H' := o_ H
      clear H
      have p438 : 0 ≤ (x7_2 : Int) := oa
      have q438 : x7_2 < (l0.length : Int) := oa
      obtain ⟨ad438, A438_6, c438_6, e438, hx438_0, hx438_1, hx438_2, hx438_3, hx438_4, hx438_5, hx438_6, hl438_6, hi438_6⟩ := aT HR0.out x7_2 p438 q438
      obtain rfl : ad437 = ad438 := (by injection e438)
      obtain ⟨hx438_0, hx438_1, hx438_2, hx438_3, hx438_4, hx438_5, hx438_6⟩ := ct7 HB hx438_0 hx438_1 hx438_2 hx438_3 hx438_4 hx438_5 hx438_6
      have HR438_6 := o_ hi438_6
      have HC438_6 := o_ hl438_6
      clear hi438_6 hl438_6
      replace p438 := eq_true p438
      replace q438 := eq_true q438
      go_wp2
      go_roundg k2
      case measure => have := HK1.out; have := HK2.out; omega
      case rel => exact ⟨(true), (decide (x7_2 > x4_1)), (wrap64 (x7_2 + 1)), (by first | rfl | simp [*]), (by first | rfl | simp [*]), (by first | rfl | simp [*]), H', ⟨by have := HK1.out; have := HK2.out; omega⟩, ⟨Ru HO_3⟩, ⟨bl HB⟩⟩
     replace c8 := Bool.eq_false_iff.mpr c8
     subst c8
     have H1 : (if x6_2 = true then (r_places.l1 k2 l0 x3_1 x4_1 (decide (x7_2 < x4_1)) true (wrap64 (x7_2 + 1))) else (r_places.l1 k2 l0 x3_1 x4_1 (decide (x7_2 < x4_1)) (decide (x7_2 > x4_1)) (wrap64 (x7_2 + 1)))) = some r := by rw [if_neg (show ¬ (false = true) by decide)] at H; exact H
     clear H
     have H := H1
     clear H1
     by_cases c10 : x6_2 = true
     ·subst c10
      have H1 : (r_places.l1 k2 l0 x3_1 x4_1 (decide (x7_2 < x4_1)) true (wrap64 (x7_2 + 1))) = some r := by rw [if_pos rfl] at H; exact H
      clear H
      have H := H1
      clear H1
      have H' := o_ H
      clear H
      have p438 : 0 ≤ (x7_2 : Int) := oa
      have q438 : x7_2 < (l0.length : Int) := oa
      obtain ⟨ad438, A438_6, c438_6, e438, hx438_0, hx438_1, hx438_2, hx438_3, hx438_4, hx438_5, hx438_6, hl438_6, hi438_6⟩ := aT HR0.out x7_2 p438 q438
      obtain rfl : ad437 = ad438 := (by injection e438)
      obtain ⟨hx438_0, hx438_1, hx438_2, hx438_3, hx438_4, hx438_5, hx438_6⟩ := ct7 HB hx438_0 hx438_1 hx438_2 hx438_3 hx438_4 hx438_5 hx438_6
      have HR438_6 := o_ hi438_6
      have HC438_6 := o_ hl438_6
      clear hi438_6 hl438_6
      replace p438 := eq_true p438
      replace q438 := eq_true q438
      go_wp2
      go_roundg k2
      case measure => have := HK1.out; have := HK2.out; omega
      case rel => exact ⟨(decide (x7_2 < x4_1)), (true), (wrap64 (x7_2 + 1)), (by first | rfl | simp [*]), (by first | rfl | simp [*]), (by first | rfl | simp [*]), H', ⟨by have := HK1.out; have := HK2.out; omega⟩, ⟨Ru HO_3⟩, ⟨bl HB⟩⟩
     replace c10 := Bool.eq_false_iff.mpr c10
     subst c10
     have H1 : (r_places.l1 k2 l0 x3_1 x4_1 (decide (x7_2 < x4_1)) (decide (x7_2 > x4_1)) (wrap64 (x7_2 + 1))) = some r := by rw [if_neg (show ¬ (false = true) by decide)] at H; exact H
     clear H
     have H := H1
     clear H1
     have H' := o_ H
     clear H
     have p438 : 0 ≤ (x7_2 : Int) := oa
     have q438 : x7_2 < (l0.length : Int) := oa
     obtain ⟨ad438, A438_6, c438_6, e438, hx438_0, hx438_1, hx438_2, hx438_3, hx438_4, hx438_5, hx438_6, hl438_6, hi438_6⟩ := aT HR0.out x7_2 p438 q438
     obtain rfl : ad437 = ad438 := (by injection e438)
     obtain ⟨hx438_0, hx438_1, hx438_2, hx438_3, hx438_4, hx438_5, hx438_6⟩ := ct7 HB hx438_0 hx438_1 hx438_2 hx438_3 hx438_4 hx438_5 hx438_6
     have HR438_6 := o_ hi438_6
     have HC438_6 := o_ hl438_6
     clear hi438_6 hl438_6
     replace p438 := eq_true p438
     replace q438 := eq_true q438
     go_wp2
     go_roundg k2
     case measure => have := HK1.out; have := HK2.out; omega
     case rel => exact ⟨(decide (x7_2 < x4_1)), (decide (x7_2 > x4_1)), (wrap64 (x7_2 + 1)), (by first | rfl | simp [*]), (by first | rfl | simp [*]), (by first | rfl | simp [*]), H', ⟨by have := HK1.out; have := HK2.out; omega⟩, ⟨Ru HO_3⟩, ⟨bl HB⟩⟩
end Go.Proofs.Yteadghhmoggjnaa.Q
end
