import Derived.Test.YteadghhmoggjnaaFR10
import Derived.Test.YteadghhmoggjnaaFR5
set_option linter.unusedVariables false
set_option linter.unusedSimpArgs false
section
namespace Go.Proofs.Yteadghhmoggjnaa.Q
open Go.RowKit Go.Proofs.YteadghhmoggjnaaW.PrintWords Go.Proofs.YteadghhmoggjnaaW.PrintLast Go.Proofs.YteadghhmoggjnaaW.PrintMore
attribute [local go_sem] max2_int max_two
set_option maxHeartbeats 8000000
set_option maxRecDepth 100000
def r_cut.f (l0 : List (S33)) (l1 : List (S33)) (a2 : Int) (a3_0 : Int) (a3_1 : Int) (a3_2 : Int) (a3_3 : Int) (a3_4 : ByteArray) (a3_5 : ByteArray) (l3_6 : List Int) : Option ((List (S33))) := (some (([] : List (S33)) : List (S33))).bind fun y443 => (if y443.length + l0.length < 1599289640401 then ((some (y443 ++ l0 : List (S33))).bind fun y446 => (if 0 ≤ a2 then (if a2 ≤ (l1.length : Int) then ((some (l1.take (a2 : Int).toNat : List (S33))).bind fun y449 => (if y446.length + y449.length < 1599289640401 then ((some (y446 ++ y449 : List (S33))).bind fun y454 => (if a3_0 = 0 then (if y454.length < 1599289640401 then (some (y454 ++ [(⟨a3_0, a3_1, a3_2, a3_3, a3_4, a3_5, l3_6⟩ : S33)])) else (none)) else (some y454))) else (none))) else (none)) else (none))) else (none))
def r_cut.T1 : Bool × List (List Nat × List Nat) := (true, [([], []), ([], []), ([0, 1], [0, 1]), ([], []), ([], []), ([3, 4], [3, 4]), ([2, 5, 2], [2, 5]), ([6, 6, 0, 1, 2, 3, 4, 5, 6], [6])])
def r_cut.B1 : List Nat := [0, 0, 3, 0, 0, 24, 63, 127]
theorem r_cut.tab1 : rtab .any (opsOf Try.f81 1) = r_cut.T1 := by kernel_rfl
theorem r_cut.bits1 : waitsOk r_cut.T1.2 r_cut.B1 = true := by kernel_rfl
theorem r_cut.calls (P0_ : Nat → Prop) (A0 : Option Addr) (c0 : Nat) (l0 : List (S33)) (P1_ : Nat → Prop) (A1 : Option Addr) (c1 : Nat) (l1 : List (S33)) (a2 : Int) (a3_0 : Int) (a3_1 : Int) (a3_2 : Int) (a3_3 : Int) (a3_4 : ByteArray) (a3_5 : ByteArray) (P3_6_ : Nat → Prop) (A3_6 : Option Addr) (c3_6 : Nat) (l3_6 : List Int) (r : List (S33)) (w : World) (hs0 : Kd.V k33 33 w w.heap.size (fun k_ => P0_ k_) (.slice A0 l0.length c0) l0) (hs1 : Kd.V k33 33 w w.heap.size (fun k_ => P1_ k_) (.slice A1 l1.length c1) l1) (hs3_6 : Kd.V (Kd.int .i64) 3 w w.heap.size (fun k_ => P3_6_ k_) (.slice A3_6 l3_6.length c3_6) l3_6) (h : r_cut.f l0 l1 a2 a3_0 a3_1 a3_2 a3_3 a3_4 a3_5 l3_6 = some r) :
  Calls Try.prog 81 #[.slice A0 l0.length c0, .slice A1 l1.length c1, .int .i64 a2, .agg #[.int .i64 a3_0, .int .i64 a3_1, .int .i64 a3_2, .int .i64 a3_3, .string a3_4, .string a3_5, .slice A3_6 l3_6.length c3_6]] w fun e w' => ∃ v0_ : Value, e = .returned (v0_) ∧ Kd.N k33 33 w' w.heap.size (fun k_ => ((P0_ k_ ∨ P1_ k_ ∨ P3_6_ k_) ∨ w.heap.size ≤ k_)) v0_ r ∧ Below w.heap.size w w' := by
 have hu33 := Try.underlying33
 have HO0 := As.mk (show Kd.V k33 33 w w.heap.size (fun k_ => ((P0_ k_ ∨ P1_ k_ ∨ P3_6_ k_) ∨ w.heap.size ≤ k_)) (.slice A0 l0.length c0) l0 from Kd.V_mono hs0 (fun k_ hk => .inl (.inl hk)))
 have HO1 := As.mk (show Kd.V k33 33 w w.heap.size (fun k_ => ((P0_ k_ ∨ P1_ k_ ∨ P3_6_ k_) ∨ w.heap.size ≤ k_)) (.slice A1 l1.length c1) l1 from Kd.V_mono hs1 (fun k_ hk => .inl (.inr (.inl hk))))
 have HO3_6 := As.mk (show Kd.V (Kd.int .i64) 3 w w.heap.size (fun k_ => ((P0_ k_ ∨ P1_ k_ ∨ P3_6_ k_) ∨ w.heap.size ≤ k_)) (.slice A3_6 l3_6.length c3_6) l3_6 from Kd.V_mono hs3_6 (fun k_ hk => .inl (.inr (.inr hk))))
 have HB := As.mk (Below.refl w.heap.size w)
 have H : ((some (([] : List (S33)) : List (S33))).bind fun y443 => (if y443.length + l0.length < 1599289640401 then ((some (y443 ++ l0 : List (S33))).bind fun y446 => (if 0 ≤ a2 then (if a2 ≤ (l1.length : Int) then ((some (l1.take (a2 : Int).toNat : List (S33))).bind fun y449 => (if y446.length + y449.length < 1599289640401 then ((some (y446 ++ y449 : List (S33))).bind fun y454 => (if a3_0 = 0 then (if y454.length < 1599289640401 then (some (y454 ++ [(⟨a3_0, a3_1, a3_2, a3_3, a3_4, a3_5, l3_6⟩ : S33)])) else (none)) else (some y454))) else (none))) else (none)) else (none))) else (none))) = some r := h
 clear h
 obtain ⟨y443, hy443⟩ : ∃ y_ : List (S33), y_ = (([] : List (S33))) := ⟨_, rfl⟩
 replace H : (if y443.length + l0.length < 1599289640401 then ((some (y443 ++ l0 : List (S33))).bind fun y446 => (if 0 ≤ a2 then (if a2 ≤ (l1.length : Int) then ((some (l1.take (a2 : Int).toNat : List (S33))).bind fun y449 => (if y446.length + y449.length < 1599289640401 then ((some (y446 ++ y449 : List (S33))).bind fun y454 => (if a3_0 = 0 then (if y454.length < 1599289640401 then (some (y454 ++ [(⟨a3_0, a3_1, a3_2, a3_3, a3_4, a3_5, l3_6⟩ : S33)])) else (none)) else (some y454))) else (none))) else (none)) else (none))) else (none)) = some r := by first | (rw [hy443]; with_reducible exact H) | (have H2_ := (Option.bind_some _ _).symm.trans H; rw [hy443]; with_reducible exact H2_) | (have H2_ := (Option.bind_some _ _).symm.trans H; with_reducible exact H2_) | with_reducible exact H | (rw [hy443]; exact H) | exact H
 have Ny443 := As.mk hy443
 clear hy443
 by_cases c5 : y443.length + l0.length < 1599289640401
 rotate_left
 ·rw [if_neg c5] at H
  exact absurd H (by simp)
 rw [if_pos c5] at H
 have LMc5 := As.mk c5
 clear c5
 obtain ⟨y446, hy446⟩ : ∃ y_ : List (S33), y_ = (y443 ++ l0) := ⟨_, rfl⟩
 replace H : (if 0 ≤ a2 then (if a2 ≤ (l1.length : Int) then ((some (l1.take (a2 : Int).toNat : List (S33))).bind fun y449 => (if y446.length + y449.length < 1599289640401 then ((some (y446 ++ y449 : List (S33))).bind fun y454 => (if a3_0 = 0 then (if y454.length < 1599289640401 then (some (y454 ++ [(⟨a3_0, a3_1, a3_2, a3_3, a3_4, a3_5, l3_6⟩ : S33)])) else (none)) else (some y454))) else (none))) else (none)) else (none)) = some r := by first | (rw [hy446]; with_reducible exact H) | (have H2_ := (Option.bind_some _ _).symm.trans H; rw [hy446]; with_reducible exact H2_) | (have H2_ := (Option.bind_some _ _).symm.trans H; with_reducible exact H2_) | with_reducible exact H | (rw [hy446]; exact H) | exact H
 have Ny446 := As.mk hy446
 clear hy446
 by_cases c6 : 0 ≤ a2
 rotate_left
 ·rw [if_neg c6] at H
  exact absurd H (by simp)
 rw [if_pos c6] at H
 have c6b0 := eq_true c6
 have c6b1 := decide_eq_true c6
 clear c6
 by_cases c7 : a2 ≤ (l1.length : Int)
 rotate_left
 ·rw [if_neg c7] at H
  exact absurd H (by simp)
 rw [if_pos c7] at H
 have c7b0 := eq_true c7
 have c7b1 := decide_eq_true c7
 clear c7
 obtain ⟨y449, hy449⟩ : ∃ y_ : List (S33), y_ = (l1.take (a2 : Int).toNat) := ⟨_, rfl⟩
 replace H : (if y446.length + y449.length < 1599289640401 then ((some (y446 ++ y449 : List (S33))).bind fun y454 => (if a3_0 = 0 then (if y454.length < 1599289640401 then (some (y454 ++ [(⟨a3_0, a3_1, a3_2, a3_3, a3_4, a3_5, l3_6⟩ : S33)])) else (none)) else (some y454))) else (none)) = some r := by first | (rw [hy449]; with_reducible exact H) | (have H2_ := (Option.bind_some _ _).symm.trans H; rw [hy449]; with_reducible exact H2_) | (have H2_ := (Option.bind_some _ _).symm.trans H; with_reducible exact H2_) | with_reducible exact H | (rw [hy449]; exact H) | exact H
 have Ny449 := As.mk hy449
 clear hy449
 by_cases c8 : y446.length + y449.length < 1599289640401
 rotate_left
 ·rw [if_neg c8] at H
  exact absurd H (by simp)
 rw [if_pos c8] at H
 have LMc8 := As.mk c8
 clear c8
 obtain ⟨y454, hy454⟩ : ∃ y_ : List (S33), y_ = (y446 ++ y449) := ⟨_, rfl⟩
 replace H : (if a3_0 = 0 then (if y454.length < 1599289640401 then (some (y454 ++ [(⟨a3_0, a3_1, a3_2, a3_3, a3_4, a3_5, l3_6⟩ : S33)])) else (none)) else (some y454)) = some r := by first | (rw [hy454]; with_reducible exact H) | (have H2_ := (Option.bind_some _ _).symm.trans H; rw [hy454]; with_reducible exact H2_) | (have H2_ := (Option.bind_some _ _).symm.trans H; with_reducible exact H2_) | with_reducible exact H | (rw [hy454]; exact H) | exact H
 have Ny454 := As.mk hy454
 clear hy454
 by_cases c9 : a3_0 = 0
 rotate_left
 ·rw [if_neg c9] at H
  have c9b0 : (a3_0 == 0) = false := beq_eq_false_iff_ne.mpr c9
  have c9b1 : (a3_0 != 0) = true := bne_iff_ne.mpr c9
  obtain rfl := Option.some.inj H
  go_enter Try.func81, Try.ntmps81
  try go_wp2_with (first | ((with_reducible refine gate_dst (N := 7) rfl ?_); refine box_event ?hg (N := 7) ?hd (cs := #[.int .i64 a3_0, .int .i64 a3_1, .int .i64 a3_2, .int .i64 a3_3, .string a3_4, .string a3_5, .slice A3_6 l3_6.length c3_6]) (t := 33) ?hr ?_; (case hd => rfl); (case hg => rfl); (case hr => first | (go_simp; done) | (go_simp; rfl)); intro gb442 hg w20 hbox hb; have n0_ := As.mk (Kd.V_below (Kd.V_elderB (Vu HO0.out) gb442 (Nat.le_of_eq hg.symm)) hb); have n1_ := As.mk (Kd.V_below (Kd.V_elderB (Vu HO1.out) gb442 (Nat.le_of_eq hg.symm)) hb); have n2_ := As.mk (Kd.V_below (Kd.V_elderB (Vu HO3_6.out) gb442 (Nat.le_of_eq hg.symm)) hb); have n3_ := As.mk (below_step (bl HB.out) hb); have n4_ := As.mk (hbox); have n5_ := As.mk ((by rw [hg]; exact (below_size (bl HB.out)) : w.heap.size ≤ gb442)); have n6_ := As.mk ((by rw [hg]; exact (below_size (bl HB.out)) : w.heap.size ≤ gb442)); clear HO0; clear HO1; clear HO3_6; clear HB; have HO0 := n0_; have HO1 := n1_; have HO3_6 := n2_; have HB := n3_; have BK442 := n4_; have GW442 := n5_; have GE442 := n6_; clear n0_ n1_ n2_ n3_ n4_ n5_ n6_; clear hb hbox hg))
  have n0_ := As.mk (Kd.V_drew HO0.out)
  have n1_ := As.mk (Kd.V_drew HO1.out)
  have n2_ := As.mk (Kd.V_drew HO3_6.out)
  have n3_ := As.mk (blk_drew BK442.out)
  have n4_ := As.mk (below_drew1 HB.out)
  clear HO0
  clear HO1
  clear HO3_6
  clear BK442
  clear HB
  have HO0 := n0_
  have HO1 := n1_
  have HO3_6 := n2_
  have BK442 := n3_
  have HB := n4_
  clear n0_ n1_ n2_ n3_ n4_
  have q22 : (a2 : Int) ≤ ((l1.length : Int) : Int) := of_decide_eq_true (by with_reducible assumption)
  obtain ⟨i022, hi022, _, hsz22, _⟩ := info_parts info33
  have hroom22 : l1.length ≤ c1 := (Kd.V_reads' HO1.out).2.1
  have hC22 : Kd.F k33 _ _ A1 l1.length l1 := (Kd.V_at (base := w.heap.size) HO1.out).2.2
  have hcut22 := cut_to (P := Try.prog) 23 33 .i64 Try.underlying23 hi022 A1 l1.length c1 a2 (of_decide_eq_true (by with_reducible assumption)) q22 hroom22
  have hr22 := Kd.F_take (m := (a2 : Int).toNat) hC22 (by omega)
  have hy22 : y449.length = (a2 : Int).toNat := (by rw [Ny449.out, List.length_take]; omega)
  rw [← Ny449.out] at hr22
  rw [← hy22] at hcut22
  have HO453 := As.mk (show Kd.V k33 33 _ w.heap.size _ (.slice A1 y449.length c1) y449 from Kd.V_mk (by omega) hr22)
  have HC453 := As.mk (show y449.length ≤ c1 from by omega)
  clear hr22 hC22 hroom22 hi022 hsz22
  have KY22 := As.mk hy22
  clear hy22
  replace q22 := eq_true q22
  refine start_ (n := 8) (S := fun w' => True) (ds := []) #[false, false, false, false, false, false, false, false] (by kernel_rfl) rfl rfl trivial (fun hHeld => ?_); refine with_tabW r_cut.tab1 r_cut.bits1 (fun HT_ HW_ => ?_)
  generalize w20.drew = w21 at HO0 HO1 HO3_6 BK442 HB HO453 hHeld ⊢
  refine pu 1 11 HT_.out (h := ?_)
  refine pu 3 13 HT_.out (h := ?_)
  refine pu 4 14 HT_.out (h := ?_)
  refine pu 5 15 HT_.out (h := ?_)
  refine one_ (i := 0) (N := some 10) #[true, true, false, true, true, true, false, false] rfl rfl (one_of HT_.out (by kernel_rfl)) (by decide) (fun K hK => ?_)
  refine Kd.N_lit_step k33 _ 33 ?hg (N' := 10) ?hd (xs := ([] : List (S33))) (inner := []) (ok := (fun k_ => ((P0_ k_ ∨ P1_ k_ ∨ P3_6_ k_) ∨ w.heap.size ≤ k_) ∧ k_ ≠ gb442)) (okp := (fun k_ => ((P0_ k_ ∨ P1_ k_ ∨ P3_6_ k_) ∨ w.heap.size ≤ k_) ∧ k_ ≠ gb442)) ?hr ?hp (fun _ hk => hk) ((show ∀ k_, w21.heap.size ≤ k_ → (fun k_ => ((P0_ k_ ∨ P1_ k_ ∨ P3_6_ k_) ∨ w.heap.size ≤ k_) ∧ k_ ≠ gb442) k_ from fun k_ hk => ⟨(.inr (Nat.le_trans (below_size (bl HB.out)) hk)), Kd.freshB (g := gb442) (o := .cells #[.int .i64 a3_0, .int .i64 a3_1, .int .i64 a3_2, .int .i64 a3_3, .string a3_4, .string a3_5, .slice A3_6 l3_6.length c3_6] 33 (0, 0)) (bu BK442.out) k_ hk⟩) _ (Nat.le_refl _)) (Below.refl _ _) (Nat.le_refl _) (by simp) ?_; (case hd => rfl); (case hg => rfl); (case hr => first | (go_simp; done) | (go_simp; rfl)); (case hp => exact (Reps.none _ _))
  intro v444 w23 ho24 hb hg_ hnew_
  clear hg_ hnew_
  (first | rw [← Ny443.out] at ho24 | (simp only [Int.reduceToNat] at ho24; rw [← Ny443.out] at ho24))
  have n0_ := As.mk (Kd.V_elder' (Vu HO0.out) (Kd.N_base ho24) hb)
  have n1_ := As.mk (Kd.V_elder' (Vu HO1.out) (Kd.N_base ho24) hb)
  have n2_ := As.mk (Kd.V_elder' (Vu HO3_6.out) (Kd.N_base ho24) hb)
  have n3_ := As.mk (Kd.V_elder' (Vu HO453.out) (Kd.N_base ho24) hb)
  have n4_ := As.mk (Kd.N_lower ho24 (below_size (bl HB.out)))
  have n5_ := As.mk (blk_below (g := gb442) (o := .cells #[.int .i64 a3_0, .int .i64 a3_1, .int .i64 a3_2, .int .i64 a3_3, .string a3_4, .string a3_5, .slice A3_6 l3_6.length c3_6] 33 (0, 0)) (bu BK442.out) hb)
  have n6_ := As.mk (below_step (bl HB.out) hb)
  clear HO0
  clear HO1
  clear HO3_6
  clear HO453
  clear BK442
  clear HB
  have HO0 := n0_
  have HO1 := n1_
  have HO3_6 := n2_
  have HO453 := n3_
  have HO445 := n4_
  have BK442 := n5_
  have HB := n6_
  clear n0_ n1_ n2_ n3_ n4_ n5_ n6_
  clear hb ho24
  refine hK.out _ _ trivial (fun hHeld => ?_)
  clear hK K
  refine norm_ (a' := ?_) ?_ ?_
  rotate_left
  ·show Act.put _ (some 10) _ = _
   simp only [Act.put, List.setIfInBounds_toArray, List.set_cons_zero, List.set_cons_succ, i64_w, i32_w]
   rfl
  refine one_ (i := 2) (N := some 12) #[true, true, true, true, true, true, false, false] rfl rfl (one_of HT_.out (by kernel_rfl)) (by decide) (fun K hK => ?_)
  refine Kd.N_append_rows_step k33 (w0 := w) w.heap.size (by rfl) (.tmp 10) (.tmp 11) 23 33 (.agg #[(.int .i64 0), (.int .i64 0), (.int .i64 0), (.int .i64 0), (.string ⟨#[]⟩), (.string ⟨#[]⟩), (.slice none 0 0)]) 88 rfl Try.underlying23 info33 rfl (by decide) (by omega) v444 y443 l0 _ _ _ (fun k_ => ((P0_ k_ ∨ P1_ k_ ∨ P3_6_ k_) ∨ w.heap.size ≤ k_) ∧ k_ ≠ gb442) (fun k_ => ((fun k_ => ((P0_ k_ ∨ P1_ k_ ∨ P3_6_ k_) ∨ w.heap.size ≤ k_) ∧ k_ ≠ gb442)) k_ ∧ some k_ ≠ (v444 : Value).ownBlock) rfl rfl ?aO ?aR (fun _ hk => hk) ?aF ?aB ?aS ?aL ?_
  (case aR => exact (by skip; exact Kd.V_F (Kd.V_mono (ok' := (fun k_ => ((fun k_ => ((P0_ k_ ∨ P1_ k_ ∨ P3_6_ k_) ∨ w.heap.size ≤ k_) ∧ k_ ≠ gb442)) k_ ∧ some k_ ≠ (v444 : Value).ownBlock)) (HO0.out) (fun k_ hk => ⟨⟨hk.1.1, hk.1.2⟩, hk.2⟩))))
  (case aB => exact (bl HB.out))
  (case aF => exact (fun k_ hk => ⟨(.inr (Nat.le_trans (below_size (bl HB.out)) hk)), Kd.freshB (g := gb442) (o := .cells #[.int .i64 a3_0, .int .i64 a3_1, .int .i64 a3_2, .int .i64 a3_3, .string a3_4, .string a3_5, .slice A3_6 l3_6.length c3_6] 33 (0, 0)) (bu BK442.out) k_ hk⟩))
  (case aO => exact (Nu HO445.out))
  (case aS => exact (below_size (bl HB.out)))
  (case aL => have := LMc5.out; omega)
  intro v447 w25 ho hb hg hat
  rw [← Ny446.out] at ho
  have n0_ := As.mk (Kd.V_afterv (ok := (fun k_ => ((P0_ k_ ∨ P1_ k_ ∨ P3_6_ k_) ∨ w.heap.size ≤ k_) ∧ k_ ≠ gb442)) (Vu HO0.out) hg hat)
  have n1_ := As.mk (Kd.V_afterv (ok := (fun k_ => ((P0_ k_ ∨ P1_ k_ ∨ P3_6_ k_) ∨ w.heap.size ≤ k_) ∧ k_ ≠ gb442)) (Vu HO1.out) hg hat)
  have n2_ := As.mk (Kd.V_afterv (ok := (fun k_ => ((P0_ k_ ∨ P1_ k_ ∨ P3_6_ k_) ∨ w.heap.size ≤ k_) ∧ k_ ≠ gb442)) (Vu HO3_6.out) hg hat)
  have n3_ := As.mk (blk_grown (g := gb442) (o := .cells #[.int .i64 a3_0, .int .i64 a3_1, .int .i64 a3_2, .int .i64 a3_3, .string a3_4, .string a3_5, .slice A3_6 l3_6.length c3_6] 33 (0, 0)) (bu BK442.out) hg (Kd.N_away HO445.out (fun _ hk => hk.2)))
  have n4_ := As.mk (Kd.V_afterv (ok := (fun k_ => ((P0_ k_ ∨ P1_ k_ ∨ P3_6_ k_) ∨ w.heap.size ≤ k_) ∧ k_ ≠ gb442)) (Vu HO453.out) hg hat)
  have n5_ := As.mk (hb)
  have n6_ := As.mk (ho)
  clear HO0
  clear HO1
  clear HO3_6
  clear BK442
  clear HO453
  clear HB
  clear HO445
  have HO0 := n0_
  have HO1 := n1_
  have HO3_6 := n2_
  have BK442 := n3_
  have HO453 := n4_
  have HB := n5_
  have HO448 := n6_
  clear n0_ n1_ n2_ n3_ n4_ n5_ n6_
  clear ho hb hg hat
  refine hK.out _ _ trivial (fun hHeld => ?_)
  clear hK K
  refine norm_ (a' := ?_) ?_ ?_
  rotate_left
  ·show Act.put _ (some 12) _ = _
   simp only [Act.put, List.setIfInBounds_toArray, List.set_cons_zero, List.set_cons_succ, i64_w, i32_w]
   rfl
  refine one_ (i := 6) (N := some 16) #[true, true, true, true, true, true, true, false] rfl rfl (one_of HT_.out (by kernel_rfl)) (by decide) (fun K hK => ?_)
  refine Kd.N_append_rows_step k33 (w0 := w) w.heap.size (by rfl) (.tmp 12) (.tmp 15) 23 33 (.agg #[(.int .i64 0), (.int .i64 0), (.int .i64 0), (.int .i64 0), (.string ⟨#[]⟩), (.string ⟨#[]⟩), (.slice none 0 0)]) 88 rfl Try.underlying23 info33 rfl (by decide) (by omega) v447 y446 y449 _ _ _ (fun k_ => ((P0_ k_ ∨ P1_ k_ ∨ P3_6_ k_) ∨ w.heap.size ≤ k_) ∧ k_ ≠ gb442) (fun k_ => ((fun k_ => ((P0_ k_ ∨ P1_ k_ ∨ P3_6_ k_) ∨ w.heap.size ≤ k_) ∧ k_ ≠ gb442)) k_ ∧ some k_ ≠ (v447 : Value).ownBlock) rfl rfl ?aO ?aR (fun _ hk => hk) ?aF ?aB ?aS ?aL ?_
  (case aR => exact (by skip; exact Kd.V_F (Kd.V_mono (ok' := (fun k_ => ((fun k_ => ((P0_ k_ ∨ P1_ k_ ∨ P3_6_ k_) ∨ w.heap.size ≤ k_) ∧ k_ ≠ gb442)) k_ ∧ some k_ ≠ (v447 : Value).ownBlock)) (HO453.out) (fun k_ hk => ⟨⟨hk.1.1, hk.1.2⟩, hk.2⟩))))
  (case aB => exact (bl HB.out))
  (case aF => exact (fun k_ hk => ⟨(.inr (Nat.le_trans (below_size (bl HB.out)) hk)), Kd.freshB (g := gb442) (o := .cells #[.int .i64 a3_0, .int .i64 a3_1, .int .i64 a3_2, .int .i64 a3_3, .string a3_4, .string a3_5, .slice A3_6 l3_6.length c3_6] 33 (0, 0)) (bu BK442.out) k_ hk⟩))
  (case aO => exact (Nu HO448.out))
  (case aS => exact (below_size (bl HB.out)))
  (case aL => have := LMc8.out; omega)
  intro v455 w26 ho hb hg hat
  rw [← Ny454.out] at ho
  have n0_ := As.mk (Kd.V_afterv (ok := (fun k_ => ((P0_ k_ ∨ P1_ k_ ∨ P3_6_ k_) ∨ w.heap.size ≤ k_) ∧ k_ ≠ gb442)) (Vu HO0.out) hg hat)
  have n1_ := As.mk (Kd.V_afterv (ok := (fun k_ => ((P0_ k_ ∨ P1_ k_ ∨ P3_6_ k_) ∨ w.heap.size ≤ k_) ∧ k_ ≠ gb442)) (Vu HO1.out) hg hat)
  have n2_ := As.mk (Kd.V_afterv (ok := (fun k_ => ((P0_ k_ ∨ P1_ k_ ∨ P3_6_ k_) ∨ w.heap.size ≤ k_) ∧ k_ ≠ gb442)) (Vu HO3_6.out) hg hat)
  have n3_ := As.mk (blk_grown (g := gb442) (o := .cells #[.int .i64 a3_0, .int .i64 a3_1, .int .i64 a3_2, .int .i64 a3_3, .string a3_4, .string a3_5, .slice A3_6 l3_6.length c3_6] 33 (0, 0)) (bu BK442.out) hg (Kd.N_away HO448.out (fun _ hk => hk.2)))
  have n4_ := As.mk (Kd.V_afterv (ok := (fun k_ => ((P0_ k_ ∨ P1_ k_ ∨ P3_6_ k_) ∨ w.heap.size ≤ k_) ∧ k_ ≠ gb442)) (Vu HO453.out) hg hat)
  have n5_ := As.mk (hb)
  have n6_ := As.mk (ho)
  clear HO0
  clear HO1
  clear HO3_6
  clear BK442
  clear HO453
  clear HB
  clear HO448
  have HO0 := n0_
  have HO1 := n1_
  have HO3_6 := n2_
  have BK442 := n3_
  have HO453 := n4_
  have HB := n5_
  have HO456 := n6_
  clear n0_ n1_ n2_ n3_ n4_ n5_ n6_
  clear ho hb hg hat
  refine hK.out _ _ trivial (fun hHeld => ?_)
  clear hK K
  refine norm_ (a' := ?_) ?_ ?_
  rotate_left
  ·show Act.put _ (some 16) _ = _
   simp only [Act.put, List.setIfInBounds_toArray, List.set_cons_zero, List.set_cons_succ, i64_w, i32_w]
   rfl
  refine pu 7 9 HT_.out (h := ?_)
  refine done_ (done_of HT_.out (by kernel_rfl)) ?_
  have z27 := box7 BK442.out
  try go_wp2
  go_ret
  exact ⟨_, by first | rfl | (simp [*] <;> rfl), by (with_reducible repeat (first | apply Kd.N_alloc | apply Kd.N_drewN | apply Kd.N_drew)); exact Kd.N_mono HO456.out (fun _ hk => hk.1), bl HB.out⟩
 rw [if_pos c9] at H
 have c9b0 : (a3_0 == 0) = true := beq_iff_eq.mpr c9
 have c9b1 : (a3_0 != 0) = false := bne_eq_false_iff_eq.mpr c9
 clear c9
 by_cases c10 : y454.length < 1599289640401
 rotate_left
 ·rw [if_neg c10] at H
  exact absurd H (by simp)
 rw [if_pos c10] at H
 have LMc10 := As.mk c10
 clear c10
 obtain ⟨y457, hy457⟩ : ∃ y_ : List (S33), y_ = (y454 ++ [(⟨a3_0, a3_1, a3_2, a3_3, a3_4, a3_5, l3_6⟩ : S33)]) := ⟨_, rfl⟩
 replace H : (some y457) = some r := by first | (rw [hy457]; with_reducible exact H) | (have H2_ := (Option.bind_some _ _).symm.trans H; rw [hy457]; with_reducible exact H2_) | (have H2_ := (Option.bind_some _ _).symm.trans H; with_reducible exact H2_) | with_reducible exact H | (rw [hy457]; exact H) | exact H
 have Ny457 := As.mk hy457
 clear hy457
 obtain rfl := Option.some.inj H
 go_enter Try.func81, Try.ntmps81
 try go_wp2_with (first | ((with_reducible refine gate_dst (N := 7) rfl ?_); refine box_event ?hg (N := 7) ?hd (cs := #[.int .i64 a3_0, .int .i64 a3_1, .int .i64 a3_2, .int .i64 a3_3, .string a3_4, .string a3_5, .slice A3_6 l3_6.length c3_6]) (t := 33) ?hr ?_; (case hd => rfl); (case hg => rfl); (case hr => first | (go_simp; done) | (go_simp; rfl)); intro gb442 hg w11 hbox hb; have n0_ := As.mk (Kd.V_below (Kd.V_elderB (Vu HO0.out) gb442 (Nat.le_of_eq hg.symm)) hb); have n1_ := As.mk (Kd.V_below (Kd.V_elderB (Vu HO1.out) gb442 (Nat.le_of_eq hg.symm)) hb); have n2_ := As.mk (Kd.V_below (Kd.V_elderB (Vu HO3_6.out) gb442 (Nat.le_of_eq hg.symm)) hb); have n3_ := As.mk (below_step (bl HB.out) hb); have n4_ := As.mk (hbox); have n5_ := As.mk ((by rw [hg]; exact (below_size (bl HB.out)) : w.heap.size ≤ gb442)); have n6_ := As.mk ((by rw [hg]; exact (below_size (bl HB.out)) : w.heap.size ≤ gb442)); clear HO0; clear HO1; clear HO3_6; clear HB; have HO0 := n0_; have HO1 := n1_; have HO3_6 := n2_; have HB := n3_; have BK442 := n4_; have GW442 := n5_; have GE442 := n6_; clear n0_ n1_ n2_ n3_ n4_ n5_ n6_; clear hb hbox hg))
 have n0_ := As.mk (Kd.V_drew HO0.out)
 have n1_ := As.mk (Kd.V_drew HO1.out)
 have n2_ := As.mk (Kd.V_drew HO3_6.out)
 have n3_ := As.mk (blk_drew BK442.out)
 have n4_ := As.mk (below_drew1 HB.out)
 clear HO0
 clear HO1
 clear HO3_6
 clear BK442
 clear HB
 have HO0 := n0_
 have HO1 := n1_
 have HO3_6 := n2_
 have BK442 := n3_
 have HB := n4_
 clear n0_ n1_ n2_ n3_ n4_
 have q13 : (a2 : Int) ≤ ((l1.length : Int) : Int) := of_decide_eq_true (by with_reducible assumption)
 obtain ⟨i013, hi013, _, hsz13, _⟩ := info_parts info33
 have hroom13 : l1.length ≤ c1 := (Kd.V_reads' HO1.out).2.1
 have hC13 : Kd.F k33 _ _ A1 l1.length l1 := (Kd.V_at (base := w.heap.size) HO1.out).2.2
 have hcut13 := cut_to (P := Try.prog) 23 33 .i64 Try.underlying23 hi013 A1 l1.length c1 a2 (of_decide_eq_true (by with_reducible assumption)) q13 hroom13
 have hr13 := Kd.F_take (m := (a2 : Int).toNat) hC13 (by omega)
 have hy13 : y449.length = (a2 : Int).toNat := (by rw [Ny449.out, List.length_take]; omega)
 rw [← Ny449.out] at hr13
 rw [← hy13] at hcut13
 have HO453 := As.mk (show Kd.V k33 33 _ w.heap.size _ (.slice A1 y449.length c1) y449 from Kd.V_mk (by omega) hr13)
 have HC453 := As.mk (show y449.length ≤ c1 from by omega)
 clear hr13 hC13 hroom13 hi013 hsz13
 have KY13 := As.mk hy13
 clear hy13
 replace q13 := eq_true q13
 refine start_ (n := 8) (S := fun w' => True) (ds := []) #[false, false, false, false, false, false, false, false] (by kernel_rfl) rfl rfl trivial (fun hHeld => ?_); refine with_tabW r_cut.tab1 r_cut.bits1 (fun HT_ HW_ => ?_)
 generalize w11.drew = w12 at HO0 HO1 HO3_6 BK442 HB HO453 hHeld ⊢
 refine pu 1 11 HT_.out (h := ?_)
 refine pu 3 13 HT_.out (h := ?_)
 refine pu 4 14 HT_.out (h := ?_)
 refine pu 5 15 HT_.out (h := ?_)
 refine one_ (i := 0) (N := some 10) #[true, true, false, true, true, true, false, false] rfl rfl (one_of HT_.out (by kernel_rfl)) (by decide) (fun K hK => ?_)
 refine Kd.N_lit_step k33 _ 33 ?hg (N' := 10) ?hd (xs := ([] : List (S33))) (inner := []) (ok := (fun k_ => ((P0_ k_ ∨ P1_ k_ ∨ P3_6_ k_) ∨ w.heap.size ≤ k_) ∧ k_ ≠ gb442)) (okp := (fun k_ => ((P0_ k_ ∨ P1_ k_ ∨ P3_6_ k_) ∨ w.heap.size ≤ k_) ∧ k_ ≠ gb442)) ?hr ?hp (fun _ hk => hk) ((show ∀ k_, w12.heap.size ≤ k_ → (fun k_ => ((P0_ k_ ∨ P1_ k_ ∨ P3_6_ k_) ∨ w.heap.size ≤ k_) ∧ k_ ≠ gb442) k_ from fun k_ hk => ⟨(.inr (Nat.le_trans (below_size (bl HB.out)) hk)), Kd.freshB (g := gb442) (o := .cells #[.int .i64 a3_0, .int .i64 a3_1, .int .i64 a3_2, .int .i64 a3_3, .string a3_4, .string a3_5, .slice A3_6 l3_6.length c3_6] 33 (0, 0)) (bu BK442.out) k_ hk⟩) _ (Nat.le_refl _)) (Below.refl _ _) (Nat.le_refl _) (by simp) ?_; (case hd => rfl); (case hg => rfl); (case hr => first | (go_simp; done) | (go_simp; rfl)); (case hp => exact (Reps.none _ _))
 intro v444 w14 ho15 hb hg_ hnew_
 clear hg_ hnew_
 (first | rw [← Ny443.out] at ho15 | (simp only [Int.reduceToNat] at ho15; rw [← Ny443.out] at ho15))
 have n0_ := As.mk (Kd.V_elder' (Vu HO0.out) (Kd.N_base ho15) hb)
 have n1_ := As.mk (Kd.V_elder' (Vu HO1.out) (Kd.N_base ho15) hb)
 have n2_ := As.mk (Kd.V_elder' (Vu HO3_6.out) (Kd.N_base ho15) hb)
 have n3_ := As.mk (Kd.V_elder' (Vu HO453.out) (Kd.N_base ho15) hb)
 have n4_ := As.mk (Kd.N_lower ho15 (below_size (bl HB.out)))
 have n5_ := As.mk (blk_below (g := gb442) (o := .cells #[.int .i64 a3_0, .int .i64 a3_1, .int .i64 a3_2, .int .i64 a3_3, .string a3_4, .string a3_5, .slice A3_6 l3_6.length c3_6] 33 (0, 0)) (bu BK442.out) hb)
 have n6_ := As.mk (below_step (bl HB.out) hb)
 clear HO0
 clear HO1
 clear HO3_6
 clear HO453
 clear BK442
 clear HB
 have HO0 := n0_
 have HO1 := n1_
 have HO3_6 := n2_
 have HO453 := n3_
 have HO445 := n4_
 have BK442 := n5_
 have HB := n6_
 clear n0_ n1_ n2_ n3_ n4_ n5_ n6_
 clear hb ho15
 refine hK.out _ _ trivial (fun hHeld => ?_)
 clear hK K
 refine norm_ (a' := ?_) ?_ ?_
 rotate_left
 ·show Act.put _ (some 10) _ = _
  simp only [Act.put, List.setIfInBounds_toArray, List.set_cons_zero, List.set_cons_succ, i64_w, i32_w]
  rfl
 refine one_ (i := 2) (N := some 12) #[true, true, true, true, true, true, false, false] rfl rfl (one_of HT_.out (by kernel_rfl)) (by decide) (fun K hK => ?_)
 refine Kd.N_append_rows_step k33 (w0 := w) w.heap.size (by rfl) (.tmp 10) (.tmp 11) 23 33 (.agg #[(.int .i64 0), (.int .i64 0), (.int .i64 0), (.int .i64 0), (.string ⟨#[]⟩), (.string ⟨#[]⟩), (.slice none 0 0)]) 88 rfl Try.underlying23 info33 rfl (by decide) (by omega) v444 y443 l0 _ _ _ (fun k_ => ((P0_ k_ ∨ P1_ k_ ∨ P3_6_ k_) ∨ w.heap.size ≤ k_) ∧ k_ ≠ gb442) (fun k_ => ((fun k_ => ((P0_ k_ ∨ P1_ k_ ∨ P3_6_ k_) ∨ w.heap.size ≤ k_) ∧ k_ ≠ gb442)) k_ ∧ some k_ ≠ (v444 : Value).ownBlock) rfl rfl ?aO ?aR (fun _ hk => hk) ?aF ?aB ?aS ?aL ?_
 (case aR => exact (by skip; exact Kd.V_F (Kd.V_mono (ok' := (fun k_ => ((fun k_ => ((P0_ k_ ∨ P1_ k_ ∨ P3_6_ k_) ∨ w.heap.size ≤ k_) ∧ k_ ≠ gb442)) k_ ∧ some k_ ≠ (v444 : Value).ownBlock)) (HO0.out) (fun k_ hk => ⟨⟨hk.1.1, hk.1.2⟩, hk.2⟩))))
 (case aB => exact (bl HB.out))
 (case aF => exact (fun k_ hk => ⟨(.inr (Nat.le_trans (below_size (bl HB.out)) hk)), Kd.freshB (g := gb442) (o := .cells #[.int .i64 a3_0, .int .i64 a3_1, .int .i64 a3_2, .int .i64 a3_3, .string a3_4, .string a3_5, .slice A3_6 l3_6.length c3_6] 33 (0, 0)) (bu BK442.out) k_ hk⟩))
 (case aO => exact (Nu HO445.out))
 (case aS => exact (below_size (bl HB.out)))
 (case aL => have := LMc5.out; omega)
 intro v447 w16 ho hb hg hat
 rw [← Ny446.out] at ho
 have n0_ := As.mk (Kd.V_afterv (ok := (fun k_ => ((P0_ k_ ∨ P1_ k_ ∨ P3_6_ k_) ∨ w.heap.size ≤ k_) ∧ k_ ≠ gb442)) (Vu HO0.out) hg hat)
 have n1_ := As.mk (Kd.V_afterv (ok := (fun k_ => ((P0_ k_ ∨ P1_ k_ ∨ P3_6_ k_) ∨ w.heap.size ≤ k_) ∧ k_ ≠ gb442)) (Vu HO1.out) hg hat)
 have n2_ := As.mk (Kd.V_afterv (ok := (fun k_ => ((P0_ k_ ∨ P1_ k_ ∨ P3_6_ k_) ∨ w.heap.size ≤ k_) ∧ k_ ≠ gb442)) (Vu HO3_6.out) hg hat)
 have n3_ := As.mk (blk_grown (g := gb442) (o := .cells #[.int .i64 a3_0, .int .i64 a3_1, .int .i64 a3_2, .int .i64 a3_3, .string a3_4, .string a3_5, .slice A3_6 l3_6.length c3_6] 33 (0, 0)) (bu BK442.out) hg (Kd.N_away HO445.out (fun _ hk => hk.2)))
 have n4_ := As.mk (Kd.V_afterv (ok := (fun k_ => ((P0_ k_ ∨ P1_ k_ ∨ P3_6_ k_) ∨ w.heap.size ≤ k_) ∧ k_ ≠ gb442)) (Vu HO453.out) hg hat)
 have n5_ := As.mk (hb)
 have n6_ := As.mk (ho)
 clear HO0
 clear HO1
 clear HO3_6
 clear BK442
 clear HO453
 clear HB
 clear HO445
 have HO0 := n0_
 have HO1 := n1_
 have HO3_6 := n2_
 have BK442 := n3_
 have HO453 := n4_
 have HB := n5_
 have HO448 := n6_
 clear n0_ n1_ n2_ n3_ n4_ n5_ n6_
 clear ho hb hg hat
 refine hK.out _ _ trivial (fun hHeld => ?_)
 clear hK K
 refine norm_ (a' := ?_) ?_ ?_
 rotate_left
 ·show Act.put _ (some 12) _ = _
  simp only [Act.put, List.setIfInBounds_toArray, List.set_cons_zero, List.set_cons_succ, i64_w, i32_w]
  rfl
 refine one_ (i := 6) (N := some 16) #[true, true, true, true, true, true, true, false] rfl rfl (one_of HT_.out (by kernel_rfl)) (by decide) (fun K hK => ?_)
 refine Kd.N_append_rows_step k33 (w0 := w) w.heap.size (by rfl) (.tmp 12) (.tmp 15) 23 33 (.agg #[(.int .i64 0), (.int .i64 0), (.int .i64 0), (.int .i64 0), (.string ⟨#[]⟩), (.string ⟨#[]⟩), (.slice none 0 0)]) 88 rfl Try.underlying23 info33 rfl (by decide) (by omega) v447 y446 y449 _ _ _ (fun k_ => ((P0_ k_ ∨ P1_ k_ ∨ P3_6_ k_) ∨ w.heap.size ≤ k_) ∧ k_ ≠ gb442) (fun k_ => ((fun k_ => ((P0_ k_ ∨ P1_ k_ ∨ P3_6_ k_) ∨ w.heap.size ≤ k_) ∧ k_ ≠ gb442)) k_ ∧ some k_ ≠ (v447 : Value).ownBlock) rfl rfl ?aO ?aR (fun _ hk => hk) ?aF ?aB ?aS ?aL ?_
 (case aR => exact (by skip; exact Kd.V_F (Kd.V_mono (ok' := (fun k_ => ((fun k_ => ((P0_ k_ ∨ P1_ k_ ∨ P3_6_ k_) ∨ w.heap.size ≤ k_) ∧ k_ ≠ gb442)) k_ ∧ some k_ ≠ (v447 : Value).ownBlock)) (HO453.out) (fun k_ hk => ⟨⟨hk.1.1, hk.1.2⟩, hk.2⟩))))
 (case aB => exact (bl HB.out))
 (case aF => exact (fun k_ hk => ⟨(.inr (Nat.le_trans (below_size (bl HB.out)) hk)), Kd.freshB (g := gb442) (o := .cells #[.int .i64 a3_0, .int .i64 a3_1, .int .i64 a3_2, .int .i64 a3_3, .string a3_4, .string a3_5, .slice A3_6 l3_6.length c3_6] 33 (0, 0)) (bu BK442.out) k_ hk⟩))
 (case aO => exact (Nu HO448.out))
 (case aS => exact (below_size (bl HB.out)))
 (case aL => have := LMc8.out; omega)
 intro v455 w17 ho hb hg hat
 rw [← Ny454.out] at ho
 have n0_ := As.mk (Kd.V_afterv (ok := (fun k_ => ((P0_ k_ ∨ P1_ k_ ∨ P3_6_ k_) ∨ w.heap.size ≤ k_) ∧ k_ ≠ gb442)) (Vu HO0.out) hg hat)
 have n1_ := As.mk (Kd.V_afterv (ok := (fun k_ => ((P0_ k_ ∨ P1_ k_ ∨ P3_6_ k_) ∨ w.heap.size ≤ k_) ∧ k_ ≠ gb442)) (Vu HO1.out) hg hat)
 have n2_ := As.mk (Kd.V_afterv (ok := (fun k_ => ((P0_ k_ ∨ P1_ k_ ∨ P3_6_ k_) ∨ w.heap.size ≤ k_) ∧ k_ ≠ gb442)) (Vu HO3_6.out) hg hat)
 have n3_ := As.mk (blk_grown (g := gb442) (o := .cells #[.int .i64 a3_0, .int .i64 a3_1, .int .i64 a3_2, .int .i64 a3_3, .string a3_4, .string a3_5, .slice A3_6 l3_6.length c3_6] 33 (0, 0)) (bu BK442.out) hg (Kd.N_away HO448.out (fun _ hk => hk.2)))
 have n4_ := As.mk (Kd.V_afterv (ok := (fun k_ => ((P0_ k_ ∨ P1_ k_ ∨ P3_6_ k_) ∨ w.heap.size ≤ k_) ∧ k_ ≠ gb442)) (Vu HO453.out) hg hat)
 have n5_ := As.mk (hb)
 have n6_ := As.mk (ho)
 clear HO0
 clear HO1
 clear HO3_6
 clear BK442
 clear HO453
 clear HB
 clear HO448
 have HO0 := n0_
 have HO1 := n1_
 have HO3_6 := n2_
 have BK442 := n3_
 have HO453 := n4_
 have HB := n5_
 have HO456 := n6_
 clear n0_ n1_ n2_ n3_ n4_ n5_ n6_
 clear ho hb hg hat
 refine hK.out _ _ trivial (fun hHeld => ?_)
 clear hK K
 refine norm_ (a' := ?_) ?_ ?_
 rotate_left
 ·show Act.put _ (some 16) _ = _
  simp only [Act.put, List.setIfInBounds_toArray, List.set_cons_zero, List.set_cons_succ, i64_w, i32_w]
  rfl
 refine pu 7 9 HT_.out (h := ?_)
 refine done_ (done_of HT_.out (by kernel_rfl)) ?_
 have z18 := box7 BK442.out
 try go_wp2_with (first | ((with_reducible refine gate_builtin (b := .append) (xs := #[.tmp 20, .tmp 22]) rfl ?_); at_builtin; refine Kd.N_append k33 (w0 := w) w.heap.size rfl (.tmp 20) (.tmp 22) 23 33 (.agg #[(.int .i64 0), (.int .i64 0), (.int .i64 0), (.int .i64 0), (.string ⟨#[]⟩), (.string ⟨#[]⟩), (.slice none 0 0)]) 88 rfl Try.underlying23 info33 rfl (by decide) (by omega) v455 y454 (⟨a3_0, a3_1, a3_2, a3_3, a3_4, a3_5, l3_6⟩ : S33) [.int .i64 a3_0, .int .i64 a3_1, .int .i64 a3_2, .int .i64 a3_3, .string a3_4, .string a3_5, .slice A3_6 l3_6.length c3_6] (fun k_ => ((P0_ k_ ∨ P1_ k_ ∨ P3_6_ k_) ∨ w.heap.size ≤ k_) ∧ k_ ≠ gb442) (fun k_ => ((fun k_ => ((P0_ k_ ∨ P1_ k_ ∨ P3_6_ k_) ∨ w.heap.size ≤ k_) ∧ k_ ≠ gb442)) k_ ∧ some k_ ≠ (v455 : Value).ownBlock) rfl rfl ?aP (fun _ hk => hk) ?aF ?aO ?aB ?aS ?aL ?_; (case aP => exact (k33_mkF _ _ (⟨a3_0, a3_1, a3_2, a3_3, a3_4, a3_5, l3_6⟩ : S33) (Kd.V_reads' (Kd.V_mono (ok' := (fun k_ => ((fun k_ => ((P0_ k_ ∨ P1_ k_ ∨ P3_6_ k_) ∨ w.heap.size ≤ k_) ∧ k_ ≠ gb442)) k_ ∧ some k_ ≠ (v455 : Value).ownBlock)) (HO3_6.out) (fun k_ hk => ⟨⟨hk.1.1, hk.1.2⟩, hk.2⟩))).2.1 (Kd.V_F (Kd.V_mono (ok' := (fun k_ => ((fun k_ => ((P0_ k_ ∨ P1_ k_ ∨ P3_6_ k_) ∨ w.heap.size ≤ k_) ∧ k_ ≠ gb442)) k_ ∧ some k_ ≠ (v455 : Value).ownBlock)) (HO3_6.out) (fun k_ hk => ⟨⟨hk.1.1, hk.1.2⟩, hk.2⟩))))); (case aB => exact (bl HB.out)); (case aF => exact (fun k_ hk => ⟨(.inr (Nat.le_trans (below_size (bl HB.out)) hk)), Kd.freshB (g := gb442) (o := .cells #[.int .i64 a3_0, .int .i64 a3_1, .int .i64 a3_2, .int .i64 a3_3, .string a3_4, .string a3_5, .slice A3_6 l3_6.length c3_6] 33 (0, 0)) (bu BK442.out) k_ hk⟩)); (case aO => exact (Nu HO456.out)); (case aS => exact (below_size (bl HB.out))); (case aL => have := LMc10.out; omega); intro v458 w19 ho hb hg hat; rw [← Ny457.out] at ho; have n0_ := As.mk (Kd.V_afterv (ok := (fun k_ => ((P0_ k_ ∨ P1_ k_ ∨ P3_6_ k_) ∨ w.heap.size ≤ k_) ∧ k_ ≠ gb442)) (Vu HO0.out) hg hat); have n1_ := As.mk (Kd.V_afterv (ok := (fun k_ => ((P0_ k_ ∨ P1_ k_ ∨ P3_6_ k_) ∨ w.heap.size ≤ k_) ∧ k_ ≠ gb442)) (Vu HO1.out) hg hat); have n2_ := As.mk (Kd.V_afterv (ok := (fun k_ => ((P0_ k_ ∨ P1_ k_ ∨ P3_6_ k_) ∨ w.heap.size ≤ k_) ∧ k_ ≠ gb442)) (Vu HO3_6.out) hg hat); have n3_ := As.mk (blk_grown (g := gb442) (o := .cells #[.int .i64 a3_0, .int .i64 a3_1, .int .i64 a3_2, .int .i64 a3_3, .string a3_4, .string a3_5, .slice A3_6 l3_6.length c3_6] 33 (0, 0)) (bu BK442.out) hg (Kd.N_away HO456.out (fun _ hk => hk.2))); have n4_ := As.mk (Kd.V_afterv (ok := (fun k_ => ((P0_ k_ ∨ P1_ k_ ∨ P3_6_ k_) ∨ w.heap.size ≤ k_) ∧ k_ ≠ gb442)) (Vu HO453.out) hg hat); have n5_ := As.mk (hb); have n6_ := As.mk (ho); clear HO0; clear HO1; clear HO3_6; clear BK442; clear HO453; clear HB; clear HO456; have HO0 := n0_; have HO1 := n1_; have HO3_6 := n2_; have BK442 := n3_; have HO453 := n4_; have HB := n5_; have HO459 := n6_; clear n0_ n1_ n2_ n3_ n4_ n5_ n6_; clear ho hb hg hat))
 go_ret
 exact ⟨_, by first | rfl | (simp [*] <;> rfl), by (with_reducible repeat (first | apply Kd.N_alloc | apply Kd.N_drewN | apply Kd.N_drew)); exact Kd.N_mono HO459.out (fun _ hk => hk.1), bl HB.out⟩
end Go.Proofs.Yteadghhmoggjnaa.Q
end
