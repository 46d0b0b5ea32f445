import Derived.ProofKit
import Derived.Deep.Slices
import Derived.Deep.Fields
import Derived.SizedLaws
import Derived.ChangeMaps5
import Derived.Test.YteadghhmoggjnaaFM29
import Derived.Test.YteadghhmoggjnaaFM28
set_option linter.unusedVariables false
set_option linter.unusedSimpArgs false
section
namespace Go.Proofs.Yteadghhmoggjnaa.Q
open Go.RowKit YteadghhmoggjnaaW.PrintWords YteadghhmoggjnaaW.PrintLast YteadghhmoggjnaaW.PrintMore
attribute [local go_sem] max2_int max_two
set_option maxHeartbeats 8000000
set_option maxRecDepth 100000
def w_hyphen.f (a0 : Int) : Option (Int × Int × Int × Int × ByteArray × ByteArray × List Int) := if (Int.tmod a0 3) = 0 then (some (5, 0, 0, 0, (⟨#[]⟩ : ByteArray), (⟨#[]⟩ : ByteArray), ([] : List Int))) else (some (0, wrap64 (Int.tmod (IntKind.u64.wrap (a0)) 12), 0, 10, (⟨#[104, 121]⟩ : ByteArray), (⟨#[]⟩ : ByteArray), ([] : List Int)))
theorem w_hyphen.calls (a0 : Int) (r1 : Int) (r2 : Int) (r3 : Int) (r4 : Int) (r5 : ByteArray) (r6 : ByteArray) (r7 : List Int) (w : World) (h : w_hyphen.f a0 = some (r1, r2, r3, r4, r5, r6, r7)) :
  Calls Try.prog 17 #[.int .i64 a0] w fun e w' => ∃ v6_ : Value, e = .returned (.agg #[.int .i64 r1, .int .i64 r2, .int .i64 r3, .int .i64 r4, .string r5, .string r6, v6_]) ∧ Kd.R (Kd.int .i64) 3 w' w.heap.size (fun _ => True) v6_ r7 ∧ Below w.heap.size w w' := by
 have hu33 := Try.underlying33
 have HB := o_ (Below.refl w.heap.size w)
 have H : (if (Int.tmod a0 3) = 0 then (some (5, 0, 0, 0, (⟨#[]⟩ : ByteArray), (⟨#[]⟩ : ByteArray), ([] : List Int))) else (some (0, wrap64 (Int.tmod (IntKind.u64.wrap (a0)) 12), 0, 10, (⟨#[104, 121]⟩ : ByteArray), (⟨#[]⟩ : ByteArray), ([] : List Int)))) = some (r1, r2, r3, r4, r5, r6, r7) := h
 clear h
 by_cases c2 : (Int.tmod a0 3) = 0
 rotate_left
 ·rw [if_neg c2] at H
  have c2b0 : ((Int.tmod a0 3) == 0) = false := beq_eq_false_iff_ne.mpr c2
  have c2b1 : ((Int.tmod a0 3) != 0) = true := bne_iff_ne.mpr c2
  simp only [Option.some.injEq, Prod.mk.injEq] at H
  obtain ⟨rfl, rfl, rfl, rfl, rfl, rfl, rfl⟩ := H
  go_enter Try.func17, Try.ntmps17
  go_wp2_with (first | ((with_reducible refine gate_dst (N := 2) rfl ?_); refine box_event ?hg (N := 2) ?hd (cs := #[.int .i64 0, .int .i64 0, .int .i64 0, .int .i64 0, .string ⟨#[]⟩, .string ⟨#[]⟩, .slice none 0 0]) (t := 33) ?hr ?_; (case hd => rfl); (case hg => rfl); (case hr => first | (go_simp; done) | (go_simp; rfl)); intro gb236 hg w5 hbox hb; have n0_ := o_ (below_step (by repeat (first | (with_reducible first | exact HB.out | apply below_alloc | apply pw_below_drewN | apply below_drew1) | exact HB.out)) hb); have n1_ := o_ (hbox); have n2_ := o_ ((by rw [hg]; exact (below_size (by repeat (first | (with_reducible first | exact HB.out | apply below_alloc | apply pw_below_drewN | apply below_drew1) | exact HB.out))) : w.heap.size ≤ gb236)); have n3_ := o_ ((by rw [hg]; exact (below_size (by repeat (first | (with_reducible first | exact HB.out | apply below_alloc | apply pw_below_drewN | apply below_drew1) | exact HB.out))) : w.heap.size ≤ gb236)); clear HB; have HB := n0_; have BK236 := n1_; have GW236 := n2_; have GE236 := n3_; clear n0_ n1_ n2_ n3_; clear hb hbox hg; have z6 := box7 BK236))
  refine bodyPost_ret (results_cell_row rfl _ _ gb236 33 #[.int .i64 0, .int .i64 (wrap64 (Int.tmod (IntKind.u64.wrap (a0)) 12)), .int .i64 0, .int .i64 10, .string ⟨#[104, 121]⟩, .string ⟨#[]⟩, .slice none 0 0] (0, 0) _ rfl (by (with_reducible repeat (first | refine blk_drewN ?_ _ | refine blk_drew ?_ | refine blk_alloc ?_ _)); refine blk_put (cs := #[.int .i64 0, .int .i64 (wrap64 (Int.tmod (IntKind.u64.wrap (a0)) 12)), .int .i64 0, .int .i64 10, .string ⟨#[104, 121]⟩, .string ⟨#[]⟩, .slice none 0 0]) ?_ 6 _ rfl; refine blk_put (cs := #[.int .i64 0, .int .i64 (wrap64 (Int.tmod (IntKind.u64.wrap (a0)) 12)), .int .i64 0, .int .i64 10, .string ⟨#[104, 121]⟩, .string ⟨#[]⟩, .slice none 0 0]) ?_ 5 _ rfl; refine blk_put (cs := #[.int .i64 0, .int .i64 (wrap64 (Int.tmod (IntKind.u64.wrap (a0)) 12)), .int .i64 0, .int .i64 10, .string ⟨#[]⟩, .string ⟨#[]⟩, .slice none 0 0]) ?_ 4 _ rfl; refine blk_put (cs := #[.int .i64 0, .int .i64 (wrap64 (Int.tmod (IntKind.u64.wrap (a0)) 12)), .int .i64 0, .int .i64 0, .string ⟨#[]⟩, .string ⟨#[]⟩, .slice none 0 0]) ?_ 3 _ rfl; refine blk_put (cs := #[.int .i64 0, .int .i64 (wrap64 (Int.tmod (IntKind.u64.wrap (a0)) 12)), .int .i64 0, .int .i64 0, .string ⟨#[]⟩, .string ⟨#[]⟩, .slice none 0 0]) ?_ 2 _ rfl; refine blk_put (cs := #[.int .i64 0, .int .i64 0, .int .i64 0, .int .i64 0, .string ⟨#[]⟩, .string ⟨#[]⟩, .slice none 0 0]) ?_ 1 _ rfl; refine blk_put (cs := #[.int .i64 0, .int .i64 0, .int .i64 0, .int .i64 0, .string ⟨#[]⟩, .string ⟨#[]⟩, .slice none 0 0]) ?_ 0 _ rfl; (with_reducible repeat (first | refine blk_drewN ?_ _ | refine blk_drew ?_ | refine blk_alloc ?_ _)); exact BK236.out) Try.underlying33 rfl (by kernel_rfl)) rfl ?_
  exact ⟨_, by first | rfl | (simp [*] <;> rfl), by first | exact Kd.R_nil _ _ _ _ _ | exact Kd.N_nil _ _ _ _ _ | exact Kd.V_nil _ _ _ _ _ | exact Kd.Q_nil _ _ _ _ _ | exact Kd.S_nil _ _ _ _ _, by repeat (first | (with_reducible first | exact HB.out | apply below_alloc | apply pw_below_drewN | apply below_drew1 | refine below_set ?_ GE236.out) | exact HB.out)⟩
 rw [if_pos c2] at H
 have c2b0 : ((Int.tmod a0 3) == 0) = true := beq_iff_eq.mpr c2
 have c2b1 : ((Int.tmod a0 3) != 0) = false := bne_eq_false_iff_eq.mpr c2
 clear c2
 simp only [Option.some.injEq, Prod.mk.injEq] at H
 obtain ⟨rfl, rfl, rfl, rfl, rfl, rfl, rfl⟩ := H
 go_enter Try.func17, Try.ntmps17
 go_wp2_with (first | ((with_reducible refine gate_dst (N := 2) rfl ?_); refine box_event ?hg (N := 2) ?hd (cs := #[.int .i64 0, .int .i64 0, .int .i64 0, .int .i64 0, .string ⟨#[]⟩, .string ⟨#[]⟩, .slice none 0 0]) (t := 33) ?hr ?_; (case hd => rfl); (case hg => rfl); (case hr => first | (go_simp; done) | (go_simp; rfl)); intro gb236 hg w3 hbox hb; have n0_ := o_ (below_step (by repeat (first | (with_reducible first | exact HB.out | apply below_alloc | apply pw_below_drewN | apply below_drew1) | exact HB.out)) hb); have n1_ := o_ (hbox); have n2_ := o_ ((by rw [hg]; exact (below_size (by repeat (first | (with_reducible first | exact HB.out | apply below_alloc | apply pw_below_drewN | apply below_drew1) | exact HB.out))) : w.heap.size ≤ gb236)); have n3_ := o_ ((by rw [hg]; exact (below_size (by repeat (first | (with_reducible first | exact HB.out | apply below_alloc | apply pw_below_drewN | apply below_drew1) | exact HB.out))) : w.heap.size ≤ gb236)); clear HB; have HB := n0_; have BK236 := n1_; have GW236 := n2_; have GE236 := n3_; clear n0_ n1_ n2_ n3_; clear hb hbox hg; have z4 := box7 BK236))
 refine bodyPost_ret (results_cell_row rfl _ _ gb236 33 #[.int .i64 5, .int .i64 0, .int .i64 0, .int .i64 0, .string ⟨#[]⟩, .string ⟨#[]⟩, .slice none 0 0] (0, 0) _ rfl (by (with_reducible repeat (first | refine blk_drewN ?_ _ | refine blk_drew ?_ | refine blk_alloc ?_ _)); refine blk_put (cs := #[.int .i64 5, .int .i64 0, .int .i64 0, .int .i64 0, .string ⟨#[]⟩, .string ⟨#[]⟩, .slice none 0 0]) ?_ 6 _ rfl; refine blk_put (cs := #[.int .i64 5, .int .i64 0, .int .i64 0, .int .i64 0, .string ⟨#[]⟩, .string ⟨#[]⟩, .slice none 0 0]) ?_ 5 _ rfl; refine blk_put (cs := #[.int .i64 5, .int .i64 0, .int .i64 0, .int .i64 0, .string ⟨#[]⟩, .string ⟨#[]⟩, .slice none 0 0]) ?_ 4 _ rfl; refine blk_put (cs := #[.int .i64 5, .int .i64 0, .int .i64 0, .int .i64 0, .string ⟨#[]⟩, .string ⟨#[]⟩, .slice none 0 0]) ?_ 3 _ rfl; refine blk_put (cs := #[.int .i64 5, .int .i64 0, .int .i64 0, .int .i64 0, .string ⟨#[]⟩, .string ⟨#[]⟩, .slice none 0 0]) ?_ 2 _ rfl; refine blk_put (cs := #[.int .i64 5, .int .i64 0, .int .i64 0, .int .i64 0, .string ⟨#[]⟩, .string ⟨#[]⟩, .slice none 0 0]) ?_ 1 _ rfl; refine blk_put (cs := #[.int .i64 0, .int .i64 0, .int .i64 0, .int .i64 0, .string ⟨#[]⟩, .string ⟨#[]⟩, .slice none 0 0]) ?_ 0 _ rfl; (with_reducible repeat (first | refine blk_drewN ?_ _ | refine blk_drew ?_ | refine blk_alloc ?_ _)); exact BK236.out) Try.underlying33 rfl (by kernel_rfl)) rfl ?_
 exact ⟨_, by first | rfl | (simp [*] <;> rfl), by first | exact Kd.R_nil _ _ _ _ _ | exact Kd.N_nil _ _ _ _ _ | exact Kd.V_nil _ _ _ _ _ | exact Kd.Q_nil _ _ _ _ _ | exact Kd.S_nil _ _ _ _ _, by repeat (first | (with_reducible first | exact HB.out | apply below_alloc | apply pw_below_drewN | apply below_drew1 | refine below_set ?_ GE236.out) | exact HB.out)⟩
def w_FillMade.f (k : Nat) (l0_0 : List Int) (a0_1 : Int) (a0_2 : Int) (a0_3 : Int) (l0_4 : List Int) : Option (Bool) := if (l0_4.length : Int) > 400 then ((w_sane.f).bind fun t714 => (some t714)) else ((w_Row.f k l0_0).bind fun t715 => ((w_hyphen.f a0_3).bind fun bt718 => (if 0 ≤ (wrap64 (Int.tmod (IntKind.u64.wrap (a0_3)) 4)) then (if (wrap64 (Int.tmod (IntKind.u64.wrap (a0_3)) 4)) < 4 then ((w_same.f k t715 (wrap64 (Int.tmod (IntKind.u64.wrap (a0_1)) 200)) (wrap64 (Int.tmod (IntKind.u64.wrap (a0_2)) 200)) bt718.1 bt718.2.1 bt718.2.2.1 bt718.2.2.2.1 bt718.2.2.2.2.1 bt718.2.2.2.2.2.1 bt718.2.2.2.2.2.2 (bt (⟨#[108, 114, 99, 98]⟩ : ByteArray) (wrap64 (Int.tmod (IntKind.u64.wrap (a0_3)) 4))) ((Int.tmod a0_2 2) == 0) l0_4).bind fun t727 => (if t727 = true then ((w_sane.f).bind fun t728 => (some t728)) else (some false))) else (none)) else (none))))
def w_FillMade.T1 : Bool × List (List Nat × List Nat) := (true, [([], []), ([0], [0]), ([], []), ([2], [2]), ([], []), ([4], [4]), ([], []), ([6], [6]), ([], []), ([8], [8]), ([1, 0, 1], [1]), ([3, 10, 0, 1, 2, 3, 10], [3]), ([5, 11, 0, 1, 2, 3, 4, 5, 10, 11], [5]), ([7, 12, 0, 1, 2, 3, 4, 5, 6, 7, 10, 11, 12], [7]), ([9, 13, 0, 1, 2, 3, 4, 5, 6, 7, 8, 9, 10, 11, 12, 13], [9])])
def w_FillMade.B1 : List Nat := [0, 1, 0, 4, 0, 16, 0, 64, 0, 256, 3, 1039, 3135, 7423, 16383]
theorem w_FillMade.tab1 : rtab .any (opsOf Try.f9 1) = w_FillMade.T1 := by kernel_rfl
theorem w_FillMade.bits1 : waitsOk w_FillMade.T1.2 w_FillMade.B1 = true := by kernel_rfl
def w_FillMade.T4 : Bool × List (List Nat × List Nat) := (true, [([], []), ([0], [0]), ([], []), ([2], [2]), ([3], [3]), ([4], [4]), ([], []), ([6], [6]), ([7], [7]), ([8], [8]), ([], []), ([10, 1], [10]), ([], []), ([12], [12]), ([13], [13]), ([14], [14]), ([15], [15]), ([], []), ([17], [17]), ([18], [18]), ([], []), ([1, 5, 9, 11, 16, 19, 20, 11], [1, 5, 9, 11, 16, 19, 20]), ([21, 21], [21]), ([22, 22], [22]), ([22, 23], [22, 23]), ([24, 23, 0, 1, 2, 3, 4, 5, 6, 7, 8, 9, 10, 11, 12, 13, 14, 15, 16, 17, 18, 19, 20, 21, 22, 23, 24], [24])])
def w_FillMade.B4 : List Nat := [0, 1, 0, 4, 12, 28, 0, 64, 192, 448, 0, 1027, 0, 4096, 12288, 28672, 61440, 0, 131072, 393216, 0, 2097151, 4194303, 8388607, 16777215, 33554431]
theorem w_FillMade.tab4 : rtab .any (opsOf Try.f9 4) = w_FillMade.T4 := by kernel_rfl
theorem w_FillMade.bits4 : waitsOk w_FillMade.T4.2 w_FillMade.B4 = true := by kernel_rfl
theorem w_FillMade.calls (k : Nat) (A0_0 : Option Addr) (c0_0 : Nat) (l0_0 : List Int) (a0_1 : Int) (a0_2 : Int) (a0_3 : Int) (A0_4 : Option Addr) (c0_4 : Nat) (l0_4 : List Int) (r : Bool) (w : World) (hr0_0 : Kd.C (Kd.int .i64) w A0_0 l0_0.length l0_0) (hc0_0 : l0_0.length ≤ c0_0) (hr0_4 : Kd.C (Kd.int .i64) w A0_4 l0_4.length l0_4) (hc0_4 : l0_4.length ≤ c0_4) (h : w_FillMade.f k l0_0 a0_1 a0_2 a0_3 l0_4 = some r) :
  Calls Try.prog 9 #[.agg #[.slice A0_0 l0_0.length c0_0, .int .i64 a0_1, .int .i64 a0_2, .int .i64 a0_3, .slice A0_4 l0_4.length c0_4]] w fun e w' => e = .returned (.bool r) ∧ Below w.heap.size w w' := by
 have hu56 := Try.underlying56
 have HR0_0 := o_ hr0_0
 have HC0_0 := o_ hc0_0
 clear hr0_0 hc0_0
 have HR0_4 := o_ hr0_4
 have HC0_4 := o_ hc0_4
 clear hr0_4 hc0_4
 have HB := o_ (Below.refl w.heap.size w)
 have H : (if (l0_4.length : Int) > 400 then ((w_sane.f).bind fun t714 => (some t714)) else ((w_Row.f k l0_0).bind fun t715 => ((w_hyphen.f a0_3).bind fun bt718 => (if 0 ≤ (wrap64 (Int.tmod (IntKind.u64.wrap (a0_3)) 4)) then (if (wrap64 (Int.tmod (IntKind.u64.wrap (a0_3)) 4)) < 4 then ((w_same.f k t715 (wrap64 (Int.tmod (IntKind.u64.wrap (a0_1)) 200)) (wrap64 (Int.tmod (IntKind.u64.wrap (a0_2)) 200)) bt718.1 bt718.2.1 bt718.2.2.1 bt718.2.2.2.1 bt718.2.2.2.2.1 bt718.2.2.2.2.2.1 bt718.2.2.2.2.2.2 (bt (⟨#[108, 114, 99, 98]⟩ : ByteArray) (wrap64 (Int.tmod (IntKind.u64.wrap (a0_3)) 4))) ((Int.tmod a0_2 2) == 0) l0_4).bind fun t727 => (if t727 = true then ((w_sane.f).bind fun t728 => (some t728)) else (some false))) else (none)) else (none))))) = some r := h
 clear h
 by_cases c2 : (l0_4.length : Int) > 400
 ·rw [if_pos c2] at H
  have c2b0 : decide (400 < (l0_4.length : Int)) = true := decide_eq_true c2
  have c2b1 : decide (400 < l0_4.length) = true := decide_eq_true (by omega)
  clear c2
  obtain ⟨t714, A30, H⟩ := qb H
  try dsimp only at H
  have A3 := o_ A30
  clear A30
  obtain rfl := Option.some.inj H
  go_enter Try.func9, Try.ntmps9
  try go_wp2_with (first | ((with_reducible refine gate_dst (N := 1) rfl ?_); refine box_event ?hg (N := 1) ?hd (cs := #[.slice A0_0 l0_0.length c0_0, .int .i64 a0_1, .int .i64 a0_2, .int .i64 a0_3, .slice A0_4 l0_4.length c0_4]) (t := 56) ?hr ?_; (case hd => rfl); (case hg => rfl); (case hr => first | (go_simp; done) | (go_simp; rfl)); intro gb713 hg w4 hbox hb; have n0_ := o_ (below_step (bl HB) hb); have n1_ := o_ (hbox); have n2_ := o_ ((by rw [hg]; exact (below_size (bl HB)) : w.heap.size ≤ gb713)); have n3_ := o_ ((by rw [hg]; exact (below_size (bl HB)) : w.heap.size ≤ gb713)); clear HB; have HB := n0_; have BK713 := n1_; have GW713 := n2_; have GE713 := n3_; clear n0_ n1_ n2_ n3_; clear hb hbox hg))
  have n0_ := o_ (blk_drew BK713.out)
  have n1_ := o_ (below_drew1 HB.out)
  clear BK713
  clear HB
  have BK713 := n0_
  have HB := n1_
  clear n0_ n1_
  refine start_ (n := 15) (S := fun w' => w'.cell? ⟨gb713, 0, none⟩ = some (.slice A0_0 l0_0.length c0_0) ∧ w'.cell? ⟨gb713, 1, none⟩ = some (.int .i64 a0_1) ∧ w'.cell? ⟨gb713, 2, none⟩ = some (.int .i64 a0_2) ∧ w'.cell? ⟨gb713, 3, none⟩ = some (.int .i64 a0_3) ∧ w'.cell? ⟨gb713, 4, none⟩ = some (.slice A0_4 l0_4.length c0_4)) (ds := []) #[false, false, false, false, false, false, false, false, false, false, false, false, false, false, false] (by kernel_rfl) rfl rfl ⟨(blk_cell BK713.out 0).trans rfl, (blk_cell BK713.out 1).trans rfl, (blk_cell BK713.out 2).trans rfl, (blk_cell BK713.out 3).trans rfl, (blk_cell BK713.out 4).trans rfl⟩ (fun hHeld => ?_); refine with_tabW w_FillMade.tab1 w_FillMade.bits1 (fun HT_ HW_ => ?_)
  generalize w4.drew = w5 at BK713 HB hHeld ⊢
  refine pu 0 8 HT_ (h := ?_)
  refine pu 2 10 HT_ (h := ?_)
  refine pu 4 12 HT_ (h := ?_)
  refine pu 6 14 HT_ (h := ?_)
  refine pu 8 16 HT_ (h := ?_)
  refine tk 1 9 HT_ HW_ hHeld (hy := by rintro w' ⟨s0, s1, s2, s3, s4⟩; go_simp; with_reducible rfl) (h := ?_)
  refine pu 10 3 HT_ (h := ?_)
  refine tk 3 11 HT_ HW_ hHeld (hy := by rintro w' ⟨s0, s1, s2, s3, s4⟩; go_simp; with_reducible rfl) (h := ?_)
  refine pu 11 4 HT_ (h := ?_)
  refine tk 5 13 HT_ HW_ hHeld (hy := by rintro w' ⟨s0, s1, s2, s3, s4⟩; go_simp; with_reducible rfl) (h := ?_)
  refine pu 12 5 HT_ (h := ?_)
  refine tk 7 15 HT_ HW_ hHeld (hy := by rintro w' ⟨s0, s1, s2, s3, s4⟩; go_simp; with_reducible rfl) (h := ?_)
  refine pu 13 6 HT_ (h := ?_)
  refine tk 9 17 HT_ HW_ hHeld (hy := by rintro w' ⟨s0, s1, s2, s3, s4⟩; go_simp; with_reducible rfl) (h := ?_)
  refine pu 14 7 HT_ (h := ?_)
  refine done_ (done_of HT_.out (by kernel_rfl)) ?_
  try go_wp2_with (first | (go_at_call 15; (with_reducible refine (w_sane.calls  t714 _ A3.out).mono ?_); rintro e w6 ⟨rfl, hb⟩; have n0_ := o_ (blk_below (g := gb713) (o := .cells #[.slice A0_0 l0_0.length c0_0, .int .i64 a0_1, .int .i64 a0_2, .int .i64 a0_3, .slice A0_4 l0_4.length c0_4] 56 (0, 0)) (bu BK713) hb); have n1_ := o_ (below_step (bl HB) hb); clear BK713; clear HB; have BK713 := n0_; have HB := n1_; clear n0_ n1_; (try clear hb)))
  go_ret
  exact ⟨by first | rfl | (simp [*] <;> rfl), bl HB⟩
 rw [if_neg c2] at H
 have c2b0 : decide (400 < (l0_4.length : Int)) = false := decide_eq_false c2
 have c2b1 : decide (400 < l0_4.length) = false := decide_eq_false (by omega)
 clear c2
 obtain ⟨t715, A70, H⟩ := qb H
 try dsimp only at H
 have A7 := o_ A70
 clear A70
 obtain ⟨⟨t718, t719, t720, t721, t722, t723, t724⟩, A80, H⟩ := qb H
 try dsimp only at H
 have A8 := o_ A80
 clear A80
 obtain ⟨ji9, hji9⟩ : ∃ j_ : Int, (wrap64 (Int.tmod (IntKind.u64.wrap (a0_3)) 4)) = j_ := ⟨_, rfl⟩
 replace H : (if 0 ≤ (ji9) then (if (ji9) < 4 then ((w_same.f k t715 (wrap64 (Int.tmod (IntKind.u64.wrap (a0_1)) 200)) (wrap64 (Int.tmod (IntKind.u64.wrap (a0_2)) 200)) t718 t719 t720 t721 t722 t723 t724 (bt (⟨#[108, 114, 99, 98]⟩ : ByteArray) (ji9)) ((Int.tmod a0_2 2) == 0) l0_4).bind fun t727 => (if t727 = true then ((w_sane.f).bind fun t728 => (some t728)) else (some false))) else (none)) else (none)) = some r := by first | (rw [hji9] at H; exact H) | (simp only [hji9] at H ⊢; exact H)
 (try rw [hji9] at A7)
 (try rw [hji9] at A8)
 have hji9w : (IntKind.i64.wrap (Int.tmod (IntKind.u64.wrap (a0_3)) 4)) = ji9 := (i64_w _).trans hji9
 by_cases c10 : 0 ≤ (ji9)
 rotate_left
 ·rw [if_neg c10] at H
  exact absurd H (by simp)
 rw [if_pos c10] at H
 have c10b0 := decide_eq_true c10
 clear c10
 by_cases c11 : (ji9) < 4
 rotate_left
 ·rw [if_neg c11] at H
  exact absurd H (by simp)
 rw [if_pos c11] at H
 have c11b0 := decide_eq_true c11
 clear c11
 obtain ⟨t727, A130, H⟩ := qb H
 try dsimp only at H
 have A13 := o_ A130
 clear A130
 by_cases c14 : t727 = true
 rotate_left
 ·replace c14 := Bool.eq_false_iff.mpr c14
  subst c14
  have H1 : (some false) = some r := by rw [if_neg (show ¬ (false = true) by decide)] at H; exact H
  clear H
  have H := H1
  clear H1
  obtain rfl := Option.some.inj H
  go_enter Try.func9, Try.ntmps9
  try go_wp2_with (first | ((with_reducible refine gate_dst (N := 1) rfl ?_); refine box_event ?hg (N := 1) ?hd (cs := #[.slice A0_0 l0_0.length c0_0, .int .i64 a0_1, .int .i64 a0_2, .int .i64 a0_3, .slice A0_4 l0_4.length c0_4]) (t := 56) ?hr ?_; (case hd => rfl); (case hg => rfl); (case hr => first | (go_simp; done) | (go_simp; rfl)); intro gb713 hg w25 hbox hb; have n0_ := o_ (below_step (bl HB) hb); have n1_ := o_ (hbox); have n2_ := o_ ((by rw [hg]; exact (below_size (bl HB)) : w.heap.size ≤ gb713)); have n3_ := o_ ((by rw [hg]; exact (below_size (bl HB)) : w.heap.size ≤ gb713)); clear HB; have HB := n0_; have BK713 := n1_; have GW713 := n2_; have GE713 := n3_; clear n0_ n1_ n2_ n3_; clear hb hbox hg))
  have n0_ := o_ (blk_drew BK713.out)
  have n1_ := o_ (below_drew1 HB.out)
  clear BK713
  clear HB
  have BK713 := n0_
  have HB := n1_
  clear n0_ n1_
  refine start_ (n := 15) (S := fun w' => w'.cell? ⟨gb713, 0, none⟩ = some (.slice A0_0 l0_0.length c0_0) ∧ w'.cell? ⟨gb713, 1, none⟩ = some (.int .i64 a0_1) ∧ w'.cell? ⟨gb713, 2, none⟩ = some (.int .i64 a0_2) ∧ w'.cell? ⟨gb713, 3, none⟩ = some (.int .i64 a0_3) ∧ w'.cell? ⟨gb713, 4, none⟩ = some (.slice A0_4 l0_4.length c0_4)) (ds := []) #[false, false, false, false, false, false, false, false, false, false, false, false, false, false, false] (by kernel_rfl) rfl rfl ⟨(blk_cell BK713.out 0).trans rfl, (blk_cell BK713.out 1).trans rfl, (blk_cell BK713.out 2).trans rfl, (blk_cell BK713.out 3).trans rfl, (blk_cell BK713.out 4).trans rfl⟩ (fun hHeld => ?_); refine with_tabW w_FillMade.tab1 w_FillMade.bits1 (fun HT_ HW_ => ?_)
  generalize w25.drew = w26 at BK713 HB hHeld ⊢
  refine pu 0 8 HT_ (h := ?_)
  refine pu 2 10 HT_ (h := ?_)
  refine pu 4 12 HT_ (h := ?_)
  refine pu 6 14 HT_ (h := ?_)
  refine pu 8 16 HT_ (h := ?_)
  refine tk 1 9 HT_ HW_ hHeld (hy := by rintro w' ⟨s0, s1, s2, s3, s4⟩; go_simp; with_reducible rfl) (h := ?_)
  refine pu 10 3 HT_ (h := ?_)
  refine tk 3 11 HT_ HW_ hHeld (hy := by rintro w' ⟨s0, s1, s2, s3, s4⟩; go_simp; with_reducible rfl) (h := ?_)
  refine pu 11 4 HT_ (h := ?_)
  refine tk 5 13 HT_ HW_ hHeld (hy := by rintro w' ⟨s0, s1, s2, s3, s4⟩; go_simp; with_reducible rfl) (h := ?_)
  refine pu 12 5 HT_ (h := ?_)
  refine tk 7 15 HT_ HW_ hHeld (hy := by rintro w' ⟨s0, s1, s2, s3, s4⟩; go_simp; with_reducible rfl) (h := ?_)
  refine pu 13 6 HT_ (h := ?_)
  refine tk 9 17 HT_ HW_ hHeld (hy := by rintro w' ⟨s0, s1, s2, s3, s4⟩; go_simp; with_reducible rfl) (h := ?_)
  refine pu 14 7 HT_ (h := ?_)
  refine done_ (done_of HT_.out (by kernel_rfl)) ?_
  try go_wp2
  have n0_ := o_ (blk_drew BK713.out)
  have n1_ := o_ (below_drew1 HB.out)
  clear BK713
  clear HB
  have BK713 := n0_
  have HB := n1_
  clear n0_ n1_
  have p12 : 0 ≤ ((ji9) : Int) := oa
  have q12 : (ji9) < (4 : Int) := oa
  have hx12 := bt_at (⟨#[108, 114, 99, 98]⟩ : ByteArray) (ji9)
  replace p12 := eq_true p12
  replace q12 := eq_true q12
  refine start_ (n := 26) (S := fun w' => True) (ds := []) #[false, false, false, false, false, false, false, false, false, false, false, false, false, false, false, false, false, false, false, false, false, false, false, false, false, false] (by kernel_rfl) rfl rfl trivial (fun hHeld => ?_); refine with_tabW w_FillMade.tab4 w_FillMade.bits4 (fun HT_ HW_ => ?_)
  generalize w26.drew = w27 at BK713 HB hHeld ⊢
  refine pu 0 22 HT_ (h := ?_)
  refine pu 2 24 HT_ (h := ?_)
  refine pu 3 25 HT_ (h := ?_)
  refine pu 4 26 HT_ (h := ?_)
  refine pu 5 27 HT_ (h := ?_)
  refine pu 6 28 HT_ (h := ?_)
  refine pu 7 29 HT_ (h := ?_)
  refine pu 8 30 HT_ (h := ?_)
  refine pu 9 31 HT_ (h := ?_)
  refine pu 10 32 HT_ (h := ?_)
  refine pu 12 34 HT_ (h := ?_)
  refine pu 13 35 HT_ (h := ?_)
  refine pu 14 36 HT_ (h := ?_)
  refine pu 15 37 HT_ (h := ?_)
  refine pu 17 39 HT_ (h := ?_)
  refine pu 18 40 HT_ (h := ?_)
  refine pu 19 41 HT_ (h := ?_)
  refine pu 20 42 HT_ (h := ?_)
  refine tk 16 38 HT_ HW_ hHeld (hy := by intro w' _; go_simp; with_reducible rfl) (h := ?_)
  refine one_ (i := 1) (N := some 23) #[true, true, true, true, true, true, true, true, true, true, true, false, true, true, true, true, true, true, true, true, true, false, false, false, false, false] rfl rfl (one_of HT_.out (by kernel_rfl)) (by decide) (fun K hK => ?_)
  refine goes_ Try.func10 (by kernel_rfl) rfl #[.slice A0_0 l0_0.length c0_0] (by rfl) rfl rfl (by (try simp only [List.map_toArray, List.map_cons, List.map_nil]); first | done | rfl | (simp only [List.length_drop, List.length_take]; rfl)) ?_
  with_reducible refine (w_Row.calls k _ _ l0_0 t715 _ ?side1 ?side2 A7.out).mono ?_
  (case side1 => exact Kd.C_below HR0_0.out (bl HB))
  (case side2 => exact HC0_0.out)
  rintro e w28 ⟨v716, rfl, ho0, hb⟩
  refine ⟨_, rfl, ?_⟩
  have n0_ := o_ (Kd.S_lower ho0 (below_size (bl HB)))
  have n1_ := o_ (blk_below (g := gb713) (o := .cells #[.slice A0_0 l0_0.length c0_0, .int .i64 a0_1, .int .i64 a0_2, .int .i64 a0_3, .slice A0_4 l0_4.length c0_4] 56 (0, 0)) (bu BK713) hb)
  have n2_ := o_ (below_step (bl HB) hb)
  clear BK713
  clear HB
  have HO717 := n0_
  have BK713 := n1_
  have HB := n2_
  clear n0_ n1_ n2_
  (try clear hb)
  (try clear hb2)
  (try clear hk)
  (try clear hi)
  (try clear ho0)
  refine hK.out _ _ trivial (fun hHeld => ?_)
  clear hK K
  refine norm_ (a' := ?_) ?_ ?_
  rotate_left
  ·show Act.put _ (some 23) _ = _
   simp only [Act.put, List.setIfInBounds_toArray, List.set_cons_zero, List.set_cons_succ, i64_w, i32_w]
   rfl
  refine one_ (i := 11) (N := some 33) #[true, true, true, true, true, true, true, true, true, true, true, true, true, true, true, true, true, true, true, true, true, false, false, false, false, false] rfl rfl (one_of HT_.out (by kernel_rfl)) (by decide) (fun K hK => ?_)
  refine goes_ Try.func17 (by kernel_rfl) rfl #[.int .i64 a0_3] (by rfl) rfl rfl (by (try simp only [List.map_toArray, List.map_cons, List.map_nil]); first | done | rfl | (simp only [List.length_drop, List.length_take]; rfl)) ?_
  with_reducible refine (w_hyphen.calls a0_3 t718 t719 t720 t721 t722 t723 t724 _ A8.out).mono ?_
  rintro e w29 ⟨v725, rfl, ho0, hb⟩
  refine ⟨_, rfl, ?_⟩
  have n0_ := o_ (Kd.S_elder' (Su HO717) (Kd.R_base ho0) hb)
  have n1_ := o_ (Kd.R_lower ho0 (below_size (bl HB)))
  have n2_ := o_ (blk_below (g := gb713) (o := .cells #[.slice A0_0 l0_0.length c0_0, .int .i64 a0_1, .int .i64 a0_2, .int .i64 a0_3, .slice A0_4 l0_4.length c0_4] 56 (0, 0)) (bu BK713) hb)
  have n3_ := o_ (below_step (bl HB) hb)
  clear HO717
  clear BK713
  clear HB
  have HO717 := n0_
  have HO726 := n1_
  have BK713 := n2_
  have HB := n3_
  clear n0_ n1_ n2_ n3_
  (try clear hb)
  (try clear hb2)
  (try clear hk)
  (try clear hi)
  (try clear ho0)
  obtain ⟨Ao30, co30, eo30⟩ := Kd.S_slice HO717.out
  (first | subst eo30 | (injection eo30 with f1_ f2_ f3_; have f4_ := f1_.symm; have f5_ := f3_.symm; clear f1_ f2_ f3_; subst f4_; subst f5_))
  obtain ⟨Ao31, co31, eo31⟩ := Kd.R_slice HO726.out
  (first | subst eo31 | (injection eo31 with f1_ f2_ f3_; have f4_ := f1_.symm; have f5_ := f3_.symm; clear f1_ f2_ f3_; subst f4_; subst f5_))
  refine hK.out _ _ trivial (fun hHeld => ?_)
  clear hK K
  refine norm_ (a' := ?_) ?_ ?_
  rotate_left
  ·show Act.put _ (some 33) _ = _
   simp only [Act.put, List.setIfInBounds_toArray, List.set_cons_zero, List.set_cons_succ, i64_w, i32_w]
   rfl
  refine one_ (i := 21) (N := some 43) #[true, true, true, true, true, true, true, true, true, true, true, true, true, true, true, true, true, true, true, true, true, true, false, false, false, false] rfl rfl (one_of HT_.out (by kernel_rfl)) (by decide) (fun K hK => ?_)
  refine goes_ Try.func25 (by kernel_rfl) rfl #[.slice Ao30 t715.length co30, .int .i64 (wrap64 (Int.tmod (IntKind.u64.wrap (a0_1)) 200)), .int .i64 (wrap64 (Int.tmod (IntKind.u64.wrap (a0_2)) 200)), .agg #[.int .i64 t718, .int .i64 t719, .int .i64 t720, .int .i64 t721, .string t722, .string t723, .slice Ao31 t724.length co31], .int .u8 (bt (⟨#[108, 114, 99, 98]⟩ : ByteArray) (ji9)), .bool ((Int.tmod a0_2 2) == 0), .slice A0_4 l0_4.length c0_4] (by rfl) rfl rfl (by (try simp only [List.map_toArray, List.map_cons, List.map_nil]); first | done | (simp only [hji9]; rfl) | rfl | (simp only [List.length_drop, List.length_take]; rfl)) ?_
  with_reducible refine (w_same.calls k _ _ t715 (wrap64 (Int.tmod (IntKind.u64.wrap (a0_1)) 200)) (wrap64 (Int.tmod (IntKind.u64.wrap (a0_2)) 200)) t718 t719 t720 t721 t722 t723 _ _ t724 (bt (⟨#[108, 114, 99, 98]⟩ : ByteArray) (ji9)) ((Int.tmod a0_2 2) == 0) _ _ l0_4 false _ ?side1 ?side2 ?side3 ?side4 ?side5 ?side6 A13.out).mono ?_
  (case side1 => exact Cu ⟨(Kd.S_reads' HO717.out).2.2⟩)
  (case side2 => exact (Kd.S_reads' HO717.out).2.1)
  (case side3 => exact Cu ⟨(Kd.R_reads' HO726.out).2.2⟩)
  (case side4 => exact (Kd.R_reads' HO726.out).2.1)
  (case side5 => exact Kd.C_below HR0_4.out (bl HB))
  (case side6 => exact HC0_4.out)
  rintro e w32 ⟨rfl, hb⟩
  refine ⟨_, rfl, ?_⟩
  have n0_ := o_ (Kd.S_below (Su HO717) hb)
  have n1_ := o_ (Kd.R_below (Ru HO726) hb)
  have n2_ := o_ (blk_below (g := gb713) (o := .cells #[.slice A0_0 l0_0.length c0_0, .int .i64 a0_1, .int .i64 a0_2, .int .i64 a0_3, .slice A0_4 l0_4.length c0_4] 56 (0, 0)) (bu BK713) hb)
  have n3_ := o_ (below_step (bl HB) hb)
  clear HO717
  clear HO726
  clear BK713
  clear HB
  have HO717 := n0_
  have HO726 := n1_
  have BK713 := n2_
  have HB := n3_
  clear n0_ n1_ n2_ n3_
  (try clear hb)
  (try clear hb2)
  (try clear hk)
  (try clear hi)
  refine hK.out _ _ trivial (fun hHeld => ?_)
  clear hK K
  refine norm_ (a' := ?_) ?_ ?_
  rotate_left
  ·show Act.put _ (some 43) _ = _
   simp only [Act.put, List.setIfInBounds_toArray, List.set_cons_zero, List.set_cons_succ, i64_w, i32_w]
   rfl
  refine pu 22 44 HT_ (h := ?_)
  refine pure_ (i := 23) (N := some 45) (v := undef) (a' := ?_) #[true, true, true, true, true, true, true, true, true, true, true, true, true, true, true, true, true, true, true, true, true, true, true, true, false, false] rfl rfl (any_of HT_.out (by kernel_rfl)) (fun _ _ _ h => h) (Or.inr ⟨by rfl, rfl⟩) ?_ ?_
  rotate_left
  ·simp only [Act.put, List.setIfInBounds_toArray, List.set_cons_zero, List.set_cons_succ, i64_w, i32_w]
   rfl
  refine pu 24 46 HT_ (h := ?_)
  refine pu 25 2 HT_ (h := ?_)
  refine done_ (done_of HT_.out (by kernel_rfl)) ?_
  try go_wp2
  go_ret
  exact ⟨by first | rfl | (simp [errW_none, errW_some] <;> rfl) | (simp only [← hji9]; first | rfl | (simp [errW_none, errW_some] <;> rfl)) | (simp [*, errW_none, errW_some] <;> rfl), bl HB⟩
 subst c14
 have H1 : ((w_sane.f).bind fun t728 => (some t728)) = some r := by rw [if_pos rfl] at H; exact H
 clear H
 have H := H1
 clear H1
 obtain ⟨t728, A150, H⟩ := qb H
 try dsimp only at H
 have A15 := o_ A150
 clear A150
 obtain rfl := Option.some.inj H
 go_enter Try.func9, Try.ntmps9
 try go_wp2_with (first | ((with_reducible refine gate_dst (N := 1) rfl ?_); refine box_event ?hg (N := 1) ?hd (cs := #[.slice A0_0 l0_0.length c0_0, .int .i64 a0_1, .int .i64 a0_2, .int .i64 a0_3, .slice A0_4 l0_4.length c0_4]) (t := 56) ?hr ?_; (case hd => rfl); (case hg => rfl); (case hr => first | (go_simp; done) | (go_simp; rfl)); intro gb713 hg w16 hbox hb; have n0_ := o_ (below_step (bl HB) hb); have n1_ := o_ (hbox); have n2_ := o_ ((by rw [hg]; exact (below_size (bl HB)) : w.heap.size ≤ gb713)); have n3_ := o_ ((by rw [hg]; exact (below_size (bl HB)) : w.heap.size ≤ gb713)); clear HB; have HB := n0_; have BK713 := n1_; have GW713 := n2_; have GE713 := n3_; clear n0_ n1_ n2_ n3_; clear hb hbox hg))
 have n0_ := o_ (blk_drew BK713.out)
 have n1_ := o_ (below_drew1 HB.out)
 clear BK713
 clear HB
 have BK713 := n0_
 have HB := n1_
 clear n0_ n1_
 refine start_ (n := 15) (S := fun w' => w'.cell? ⟨gb713, 0, none⟩ = some (.slice A0_0 l0_0.length c0_0) ∧ w'.cell? ⟨gb713, 1, none⟩ = some (.int .i64 a0_1) ∧ w'.cell? ⟨gb713, 2, none⟩ = some (.int .i64 a0_2) ∧ w'.cell? ⟨gb713, 3, none⟩ = some (.int .i64 a0_3) ∧ w'.cell? ⟨gb713, 4, none⟩ = some (.slice A0_4 l0_4.length c0_4)) (ds := []) #[false, false, false, false, false, false, false, false, false, false, false, false, false, false, false] (by kernel_rfl) rfl rfl ⟨(blk_cell BK713.out 0).trans rfl, (blk_cell BK713.out 1).trans rfl, (blk_cell BK713.out 2).trans rfl, (blk_cell BK713.out 3).trans rfl, (blk_cell BK713.out 4).trans rfl⟩ (fun hHeld => ?_); refine with_tabW w_FillMade.tab1 w_FillMade.bits1 (fun HT_ HW_ => ?_)
 generalize w16.drew = w17 at BK713 HB hHeld ⊢
 refine pu 0 8 HT_ (h := ?_)
 refine pu 2 10 HT_ (h := ?_)
 refine pu 4 12 HT_ (h := ?_)
 refine pu 6 14 HT_ (h := ?_)
 refine pu 8 16 HT_ (h := ?_)
 refine tk 1 9 HT_ HW_ hHeld (hy := by rintro w' ⟨s0, s1, s2, s3, s4⟩; go_simp; with_reducible rfl) (h := ?_)
 refine pu 10 3 HT_ (h := ?_)
 refine tk 3 11 HT_ HW_ hHeld (hy := by rintro w' ⟨s0, s1, s2, s3, s4⟩; go_simp; with_reducible rfl) (h := ?_)
 refine pu 11 4 HT_ (h := ?_)
 refine tk 5 13 HT_ HW_ hHeld (hy := by rintro w' ⟨s0, s1, s2, s3, s4⟩; go_simp; with_reducible rfl) (h := ?_)
 refine pu 12 5 HT_ (h := ?_)
 refine tk 7 15 HT_ HW_ hHeld (hy := by rintro w' ⟨s0, s1, s2, s3, s4⟩; go_simp; with_reducible rfl) (h := ?_)
 refine pu 13 6 HT_ (h := ?_)
 refine tk 9 17 HT_ HW_ hHeld (hy := by rintro w' ⟨s0, s1, s2, s3, s4⟩; go_simp; with_reducible rfl) (h := ?_)
 refine pu 14 7 HT_ (h := ?_)
 refine done_ (done_of HT_.out (by kernel_rfl)) ?_
 try go_wp2
 have n0_ := o_ (blk_drew BK713.out)
 have n1_ := o_ (below_drew1 HB.out)
 clear BK713
 clear HB
 have BK713 := n0_
 have HB := n1_
 clear n0_ n1_
 have p12 : 0 ≤ ((ji9) : Int) := oa
 have q12 : (ji9) < (4 : Int) := oa
 have hx12 := bt_at (⟨#[108, 114, 99, 98]⟩ : ByteArray) (ji9)
 replace p12 := eq_true p12
 replace q12 := eq_true q12
 refine start_ (n := 26) (S := fun w' => True) (ds := []) #[false, false, false, false, false, false, false, false, false, false, false, false, false, false, false, false, false, false, false, false, false, false, false, false, false, false] (by kernel_rfl) rfl rfl trivial (fun hHeld => ?_); refine with_tabW w_FillMade.tab4 w_FillMade.bits4 (fun HT_ HW_ => ?_)
 generalize w17.drew = w18 at BK713 HB hHeld ⊢
 refine pu 0 22 HT_ (h := ?_)
 refine pu 2 24 HT_ (h := ?_)
 refine pu 3 25 HT_ (h := ?_)
 refine pu 4 26 HT_ (h := ?_)
 refine pu 5 27 HT_ (h := ?_)
 refine pu 6 28 HT_ (h := ?_)
 refine pu 7 29 HT_ (h := ?_)
 refine pu 8 30 HT_ (h := ?_)
 refine pu 9 31 HT_ (h := ?_)
 refine pu 10 32 HT_ (h := ?_)
 refine pu 12 34 HT_ (h := ?_)
 refine pu 13 35 HT_ (h := ?_)
 refine pu 14 36 HT_ (h := ?_)
 refine pu 15 37 HT_ (h := ?_)
 refine pu 17 39 HT_ (h := ?_)
 refine pu 18 40 HT_ (h := ?_)
 refine pu 19 41 HT_ (h := ?_)
 refine pu 20 42 HT_ (h := ?_)
 refine tk 16 38 HT_ HW_ hHeld (hy := by intro w' _; go_simp; with_reducible rfl) (h := ?_)
 refine one_ (i := 1) (N := some 23) #[true, true, true, true, true, true, true, true, true, true, true, false, true, true, true, true, true, true, true, true, true, false, false, false, false, false] rfl rfl (one_of HT_.out (by kernel_rfl)) (by decide) (fun K hK => ?_)
 refine goes_ Try.func10 (by kernel_rfl) rfl #[.slice A0_0 l0_0.length c0_0] (by rfl) rfl rfl (by (try simp only [List.map_toArray, List.map_cons, List.map_nil]); first | done | rfl | (simp only [List.length_drop, List.length_take]; rfl)) ?_
 with_reducible refine (w_Row.calls k _ _ l0_0 t715 _ ?side1 ?side2 A7.out).mono ?_
 (case side1 => exact Kd.C_below HR0_0.out (bl HB))
 (case side2 => exact HC0_0.out)
 rintro e w19 ⟨v716, rfl, ho0, hb⟩
 refine ⟨_, rfl, ?_⟩
 have n0_ := o_ (Kd.S_lower ho0 (below_size (bl HB)))
 have n1_ := o_ (blk_below (g := gb713) (o := .cells #[.slice A0_0 l0_0.length c0_0, .int .i64 a0_1, .int .i64 a0_2, .int .i64 a0_3, .slice A0_4 l0_4.length c0_4] 56 (0, 0)) (bu BK713) hb)
 have n2_ := o_ (below_step (bl HB) hb)
 clear BK713
 clear HB
 have HO717 := n0_
 have BK713 := n1_
 have HB := n2_
 clear n0_ n1_ n2_
 (try clear hb)
 (try clear hb2)
 (try clear hk)
 (try clear hi)
 (try clear ho0)
 refine hK.out _ _ trivial (fun hHeld => ?_)
 clear hK K
 refine norm_ (a' := ?_) ?_ ?_
 rotate_left
 ·show Act.put _ (some 23) _ = _
  simp only [Act.put, List.setIfInBounds_toArray, List.set_cons_zero, List.set_cons_succ, i64_w, i32_w]
  rfl
 refine one_ (i := 11) (N := some 33) #[true, true, true, true, true, true, true, true, true, true, true, true, true, true, true, true, true, true, true, true, true, false, false, false, false, false] rfl rfl (one_of HT_.out (by kernel_rfl)) (by decide) (fun K hK => ?_)
 refine goes_ Try.func17 (by kernel_rfl) rfl #[.int .i64 a0_3] (by rfl) rfl rfl (by (try simp only [List.map_toArray, List.map_cons, List.map_nil]); first | done | rfl | (simp only [List.length_drop, List.length_take]; rfl)) ?_
 with_reducible refine (w_hyphen.calls a0_3 t718 t719 t720 t721 t722 t723 t724 _ A8.out).mono ?_
 rintro e w20 ⟨v725, rfl, ho0, hb⟩
 refine ⟨_, rfl, ?_⟩
 have n0_ := o_ (Kd.S_elder' (Su HO717) (Kd.R_base ho0) hb)
 have n1_ := o_ (Kd.R_lower ho0 (below_size (bl HB)))
 have n2_ := o_ (blk_below (g := gb713) (o := .cells #[.slice A0_0 l0_0.length c0_0, .int .i64 a0_1, .int .i64 a0_2, .int .i64 a0_3, .slice A0_4 l0_4.length c0_4] 56 (0, 0)) (bu BK713) hb)
 have n3_ := o_ (below_step (bl HB) hb)
 clear HO717
 clear BK713
 clear HB
 have HO717 := n0_
 have HO726 := n1_
 have BK713 := n2_
 have HB := n3_
 clear n0_ n1_ n2_ n3_
 (try clear hb)
 (try clear hb2)
 (try clear hk)
 (try clear hi)
 (try clear ho0)
 obtain ⟨Ao21, co21, eo21⟩ := Kd.S_slice HO717.out
 (first | subst eo21 | (injection eo21 with f1_ f2_ f3_; have f4_ := f1_.symm; have f5_ := f3_.symm; clear f1_ f2_ f3_; subst f4_; subst f5_))
 obtain ⟨Ao22, co22, eo22⟩ := Kd.R_slice HO726.out
 (first | subst eo22 | (injection eo22 with f1_ f2_ f3_; have f4_ := f1_.symm; have f5_ := f3_.symm; clear f1_ f2_ f3_; subst f4_; subst f5_))
 refine hK.out _ _ trivial (fun hHeld => ?_)
 clear hK K
 refine norm_ (a' := ?_) ?_ ?_
 rotate_left
 ·show Act.put _ (some 33) _ = _
  simp only [Act.put, List.setIfInBounds_toArray, List.set_cons_zero, List.set_cons_succ, i64_w, i32_w]
  rfl
 refine one_ (i := 21) (N := some 43) #[true, true, true, true, true, true, true, true, true, true, true, true, true, true, true, true, true, true, true, true, true, true, false, false, false, false] rfl rfl (one_of HT_.out (by kernel_rfl)) (by decide) (fun K hK => ?_)
 refine goes_ Try.func25 (by kernel_rfl) rfl #[.slice Ao21 t715.length co21, .int .i64 (wrap64 (Int.tmod (IntKind.u64.wrap (a0_1)) 200)), .int .i64 (wrap64 (Int.tmod (IntKind.u64.wrap (a0_2)) 200)), .agg #[.int .i64 t718, .int .i64 t719, .int .i64 t720, .int .i64 t721, .string t722, .string t723, .slice Ao22 t724.length co22], .int .u8 (bt (⟨#[108, 114, 99, 98]⟩ : ByteArray) (ji9)), .bool ((Int.tmod a0_2 2) == 0), .slice A0_4 l0_4.length c0_4] (by rfl) rfl rfl (by (try simp only [List.map_toArray, List.map_cons, List.map_nil]); first | done | (simp only [hji9]; rfl) | rfl | (simp only [List.length_drop, List.length_take]; rfl)) ?_
 with_reducible refine (w_same.calls k _ _ t715 (wrap64 (Int.tmod (IntKind.u64.wrap (a0_1)) 200)) (wrap64 (Int.tmod (IntKind.u64.wrap (a0_2)) 200)) t718 t719 t720 t721 t722 t723 _ _ t724 (bt (⟨#[108, 114, 99, 98]⟩ : ByteArray) (ji9)) ((Int.tmod a0_2 2) == 0) _ _ l0_4 true _ ?side1 ?side2 ?side3 ?side4 ?side5 ?side6 A13.out).mono ?_
 (case side1 => exact Cu ⟨(Kd.S_reads' HO717.out).2.2⟩)
 (case side2 => exact (Kd.S_reads' HO717.out).2.1)
 (case side3 => exact Cu ⟨(Kd.R_reads' HO726.out).2.2⟩)
 (case side4 => exact (Kd.R_reads' HO726.out).2.1)
 (case side5 => exact Kd.C_below HR0_4.out (bl HB))
 (case side6 => exact HC0_4.out)
 rintro e w23 ⟨rfl, hb⟩
 refine ⟨_, rfl, ?_⟩
 have n0_ := o_ (Kd.S_below (Su HO717) hb)
 have n1_ := o_ (Kd.R_below (Ru HO726) hb)
 have n2_ := o_ (blk_below (g := gb713) (o := .cells #[.slice A0_0 l0_0.length c0_0, .int .i64 a0_1, .int .i64 a0_2, .int .i64 a0_3, .slice A0_4 l0_4.length c0_4] 56 (0, 0)) (bu BK713) hb)
 have n3_ := o_ (below_step (bl HB) hb)
 clear HO717
 clear HO726
 clear BK713
 clear HB
 have HO717 := n0_
 have HO726 := n1_
 have BK713 := n2_
 have HB := n3_
 clear n0_ n1_ n2_ n3_
 (try clear hb)
 (try clear hb2)
 (try clear hk)
 (try clear hi)
 refine hK.out _ _ trivial (fun hHeld => ?_)
 clear hK K
 refine norm_ (a' := ?_) ?_ ?_
 rotate_left
 ·show Act.put _ (some 43) _ = _
  simp only [Act.put, List.setIfInBounds_toArray, List.set_cons_zero, List.set_cons_succ, i64_w, i32_w]
  rfl
 refine pu 22 44 HT_ (h := ?_)
 refine one_ (i := 23) (N := some 45) #[true, true, true, true, true, true, true, true, true, true, true, true, true, true, true, true, true, true, true, true, true, true, true, true, false, false] rfl rfl (one_of HT_.out (by kernel_rfl)) (by decide) (fun K hK => ?_)
 refine goes_ Try.func15 (by kernel_rfl) rfl #[] (by rfl) rfl rfl (by (try simp only [List.map_toArray, List.map_cons, List.map_nil]); first | done | rfl | (simp only [List.length_drop, List.length_take]; rfl)) ?_
 with_reducible refine (w_sane.calls  t728 _ A15.out).mono ?_
 rintro e w24 ⟨rfl, hb⟩
 refine ⟨_, rfl, ?_⟩
 have n0_ := o_ (Kd.S_below (Su HO717) hb)
 have n1_ := o_ (Kd.R_below (Ru HO726) hb)
 have n2_ := o_ (blk_below (g := gb713) (o := .cells #[.slice A0_0 l0_0.length c0_0, .int .i64 a0_1, .int .i64 a0_2, .int .i64 a0_3, .slice A0_4 l0_4.length c0_4] 56 (0, 0)) (bu BK713) hb)
 have n3_ := o_ (below_step (bl HB) hb)
 clear HO717
 clear HO726
 clear BK713
 clear HB
 have HO717 := n0_
 have HO726 := n1_
 have BK713 := n2_
 have HB := n3_
 clear n0_ n1_ n2_ n3_
 (try clear hb)
 (try clear hb2)
 (try clear hk)
 (try clear hi)
 refine hK.out _ _ trivial (fun hHeld => ?_)
 clear hK K
 refine norm_ (a' := ?_) ?_ ?_
 rotate_left
 ·show Act.put _ (some 45) _ = _
  simp only [Act.put, List.setIfInBounds_toArray, List.set_cons_zero, List.set_cons_succ, i64_w, i32_w]
  rfl
 refine pu 24 46 HT_ (h := ?_)
 refine pu 25 2 HT_ (h := ?_)
 refine done_ (done_of HT_.out (by kernel_rfl)) ?_
 try go_wp2
 go_ret
 exact ⟨by first | rfl | (simp [errW_none, errW_some] <;> rfl) | (simp only [← hji9]; first | rfl | (simp [errW_none, errW_some] <;> rfl)) | (simp [*, errW_none, errW_some] <;> rfl), bl HB⟩
end Go.Proofs.Yteadghhmoggjnaa.Q
end
section
namespace Go.Proofs.YteadghhmoggjnaaB
open Go.RowKit
open Yteadghhmoggjnaa.Q
open YteadghhmoggjnaaW.PrintWords YteadghhmoggjnaaW.PrintLast YteadghhmoggjnaaW.PrintMore
set_option maxHeartbeats 1600000
theorem same_fit {l : List S33} (hl : l.length ≤ 1000000) (h6 : ∀ x ∈ l, x.f6.length ≤ 17592186044415) : Ev (fun k => s_Same.f k l l) true := same_ev l (by omega) (fun x hx => by have := h6 x hx; omega)
theorem takeAns_parts (l : List S33) (len : Int) (h : S33) (hl : l.length ≤ 5000) (h6 : ∀ x ∈ l, x.f6.length ≤ 17592186044415) (hh : h.f6.length ≤ 17592186044415) :
  ((takeAns l len h).1.length ≤ 1000000 ∧ ∀ x ∈ (takeAns l len h).1, x.f6.length ≤ 17592186044415) ∧ ((takeAns l len h).2.1.length ≤ 1000000 ∧ ∀ x ∈ (takeAns l len h).2.1, x.f6.length ≤ 17592186044415) := by
 obtain ⟨p, p3, p4⟩ := parts_fit (len := len) (h := h) (by omega : l.length ≤ 900000) h6 hh
 unfold takeAns
 split
 ·exact ⟨p, by show (takeL l len h).2.1.length ≤ _; omega, fun x hx => h6 x (p4 x hx)⟩
 ·exact ⟨⟨by simp, fun x hx => by cases hx⟩, by simp, fun x hx => by cases hx⟩
theorem same_f (l : List S33) (len rest : Int) (h : S33) (mode : Int) (odd : Bool) (pl : List Int) (hl : l.length ≤ 400) (hf : ∀ x ∈ l, Fit x) (hh : Fit h) (hp : pl.length ≤ 400) :
  Ev (fun k => w_same.f k l len rest h.f0 h.f1 h.f2 h.f3 h.f4 h.f5 h.f6 mode odd pl) true := by
 have h6 : ∀ x ∈ l, x.f6.length ≤ 17592186044415 := fun x hx => (hf x hx).1
 obtain ⟨⟨t1, t2⟩, t3, t4⟩ := takeAns_parts l len h (by omega) h6 hh.1
 obtain ⟨R, r1, r2, r3, r4⟩ := break_f l len rest h (by omega) hf hh 17592186044415 (by omega) h6 hh.1
 have hadj : fill_Adjust.f l len mode odd = some (adjL l len mode odd) := rfl
 obtain ⟨a1, a2⟩ := adj_parts l len mode odd 17592186044415 h6
 obtain ⟨w1, w2⟩ := words_parts (l.length + 1) (restL l)
 have hrl := restL_le l
 have hpt := ptsTo_parts l (putL l.length pl (-1)) l.length (Nat.le_refl _)
 have hne : ∀ b : Bool, ¬ ((b != b) = true) := fun b => by cases b <;> decide
 refine ev_known (fill_Take_f l len h (by omega) h6 hh.1) (Ev.bind (ref_Take_f l len h (by omega) hf hh) (ev_pos rfl (ev_neg (hne _) ?_)))
 refine Ev.bind (same_fit t1 t2) (ev_pos rfl (Ev.bind (same_fit t3 t4) ?_))
 refine Ev.step (fun k => by rw [w_same.j0]) (ev_neg (by decide) ?_)
 refine Ev.bind r1 (Ev.bind r2 (ev_pos rfl (Ev.bind (rows_self R.1 17592186044415 (by omega) (by omega) (fun y hy => ⟨by have := (r4 y hy).1; omega, (r4 y hy).2⟩)) ?_)))
 refine Ev.step (fun k => by rw [w_same.j1]) (ev_neg (by decide) ?_)
 refine ev_known hadj (Ev.bind (ref_Adjust_f l len mode odd (by omega) hf) (ev_pos rfl (ev_pos rfl (Ev.bind (same_fit (by omega) a2) ?_))))
 refine Ev.step (fun k => by rw [w_same.j2]) (ev_neg (by decide) ?_)
 refine ev_known (gaps_fill l (by omega) h6) (Ev.bind (gaps_ref l (by omega)) (ev_pos rfl ?_))
 refine ev_known (fill_Words_f l (by omega) h6) (Ev.bind (ref_Words_f l (by omega) h6) (Ev.bind (rows_self (wordsL l) 17592186044415 (by omega) (by show (wordsGo (l.length + 1) (restL l)).length ≤ _; omega) (fun y hy => ?_)) (ev_pos rfl ?_)))
 ·obtain ⟨b1, b2⟩ := w2 y hy
  exact ⟨by omega, fun x hx => h6 x (restL_mem (b2 x hx))⟩
 ·refine Ev.bind (fill_Points_f l pl (by omega) h6 (by omega)) (Ev.bind (ref_Points_f l pl (by omega) h6 (by omega)) (Ev.bind (same_fit (by omega) (fun x hx => ?_)) (ev_now rfl)))
  rcases hpt.2 x hx with h1 | rfl
  ·exact h6 x h1
  ·exact Nat.zero_le _
theorem box_fit (n : Int) : Fit (boxOf n) := by
 obtain ⟨h1, h2, -⟩ := boxOf_ok n
 have hm : ∀ s : ByteArray, s.size ≤ 10 → s.size ≤ 17592186044415000 := fun s h => by omega
 refine ⟨by rw [h2]; exact Nat.zero_le _, ?_, ?_⟩
 ·have hc : colourB (boxOf n).f5 = true := by
   unfold validB at h1
   simp only [Bool.and_eq_true, Bool.not_eq_true', Bool.or_eq_false_iff, Bool.not_eq_false'] at h1
   exact h1.1.2
  unfold colourB at hc
  rw [Bool.and_eq_true] at hc
  have := of_decide_eq_true hc.1
  omega
 ·unfold boxOf boxRQ
  split
  ·exact Nat.zero_le _
  ·split
   ·exact Nat.zero_le _
   ·split
    ·show (1 : Nat) ≤ _; omega
    ·split
     ·exact Nat.zero_le _
     ·split
      ·exact Nat.zero_le _
      ·show (letter _).size ≤ _
       unfold letter
       rw [ByteArray.size_extract]
       have : (⟨#[97, 98, 99, 100, 101, 102, 103, 104]⟩ : ByteArray).size = 8 := rfl
       rw [this]
       omega
def hyB (n : Int) : S33 := if Int.tmod n 3 = 0 then ⟨5, 0, 0, 0, ⟨#[]⟩, ⟨#[]⟩, []⟩ else ⟨0, wrap64 (Int.tmod (IntKind.u64.wrap n) 12), 0, 10, ⟨#[104, 121]⟩, ⟨#[]⟩, []⟩
theorem hyphen_f (n : Int) : w_hyphen.f n = some ((hyB n).f0, (hyB n).f1, (hyB n).f2, (hyB n).f3, (hyB n).f4, (hyB n).f5, (hyB n).f6) := by
 unfold w_hyphen.f hyB
 split <;> rfl
theorem hy_fit (n : Int) : Fit (hyB n) := by
 unfold hyB
 split
 ·exact ⟨Nat.zero_le _, Nat.zero_le _, Nat.zero_le _⟩
 ·exact ⟨Nat.zero_le _, Nat.zero_le _, by show (2 : Nat) ≤ _; omega⟩
theorem row_ev (l : List Int) : Ev (fun k => w_Row.f k l) (rowL l) := ⟨482, fun k hk => row_f l hk⟩
theorem FillMade_pure (ns : List Int) (len rest h : Int) (pl : List Int) : Ev (fun k => w_FillMade.f k ns len rest h pl) true := by
 have hsane : w_sane.f = some true := rfl
 by_cases h1 : (pl.length : Int) > 400
 ·exact ev_pos h1 (ev_known hsane (ev_now rfl))
 ·refine ev_neg h1 (Ev.bind (row_ev ns) (ev_known (hyphen_f h) ?_))
  have h4 : 0 ≤ wrap64 (Int.tmod (IntKind.u64.wrap h) 4) ∧ wrap64 (Int.tmod (IntKind.u64.wrap h) 4) < 4 := by
   rw [IntKind.wrap_u64, Int.tmod_eq_emod_of_nonneg (by omega)]
   unfold wrap64
   omega
  have hrl := rowL_len ns
  refine ev_pos h4.1 (ev_pos h4.2 ?_)
  exact Ev.bind (same_f (rowL ns) _ _ (hyB h) _ _ pl (by omega) (fun x hx => by obtain ⟨n, rfl⟩ := rowL_mem hx; exact box_fit n) (hy_fit h) (by omega)) (ev_pos rfl (ev_known hsane (ev_now rfl)))
end Go.Proofs.YteadghhmoggjnaaB
end
section
namespace Go.Proofs.YteadghhmoggjnaaB
open Go.ChangeShapes Go.WideShapes Go.ChangeAt Go.RowKit
section
variable {H : Type} {enc : TypeId × Value → H} {P : Program}
theorem trodAll_stays (hl : laidOutB P = true) {W W' : World} (hb : Below W.heap.size W W') : ∀ {ts : List TypeId} {vs : List Value} {ds : List (DataW H)} {ps : List MemPlace}, (∀ t ∈ ts, P.readableRec t = true ∧ t < P.types.size) →
  (∀ x ∈ ps, x.block < W.heap.size) → DataW.TrodAll enc P W 0 (fun _ => true) true ts vs ds ps → DataW.TrodAll enc P W' 0 (fun b => decide (b < W.heap.size)) true ts vs ds ps
 | [], [], [], ps, _, _, h => h
 | [], [], _ :: _, _, _, _, h => h.elim
 | [], _ :: _, _, _, _, _, h => h.elim
 | _ :: _, [], _, _, _, _, h => h.elim
 | _ :: _, _ :: _, [], _, _, _, h => h.elim
 | t :: ts, v :: vs, d :: ds, ps, hr, hp, h => by
  obtain ⟨p, q, h1, h2, rfl⟩ := h
  refine ⟨p, q, Below.trod hl (hr t (by simp)).1 (hr t (by simp)).2 h1 hb (fun x hx => hp x (by simp [hx])), trodAll_stays hl hb (fun t ht => hr t (by simp [ht])) (fun x hx => hp x (by simp [hx])) h2, rfl⟩
theorem law_post {f : Func} {s : ChangeSpec} {W W' : World} {args : Array Value} {ds : List (DataW H)} {before : List MemPlace} {b : TypeId} (hl : laidOutB P = true) (hv : s.vars = []) (hr : f.resultTypes.toList = [b]) (hb1 : f.resultTypes.size = 1) (hb : P.underlying b = some .bool)
  (hres : (s.fn H (ds ++ [])).results = [.lit (.bool true)]) (hargs : (s.fn H (ds ++ [])).args = ds) (hvars : (s.fn H (ds ++ [])).vars = []) (htypes : ∀ t ∈ f.params.toList, P.readableRec t = true ∧ t < P.types.size)
  (hW : DataW.Whole enc P f.params.toList s.vars false W args.toList ds [] before) (hbel : Below W.heap.size W W') : s.post enc P f false true false false W args (.bool true) W' := by
 have hlt := hW.lt
 have hW' := hW
 obtain ⟨p, q, h1, h2, rfl, h3, h4⟩ := hW'
 rw [hv] at h2
 have hq : q = [] := h2
 subst hq
 refine ⟨ds, [], p ++ [], [], p, [], hW, ?_, ?_, ?_, World.keptBut_mono (fun x hx => ⟨hx, .inr (.inl (by simpa using hx))⟩) (hbel.frame (· ∈ p ++ [])), fun h => by cases h⟩
 ·rw [hr, hb1, hres]
  exact trodAll_mk1 (shut_bool hb true)
 ·rw [hargs]
  exact trodAll_stays hl hbel htypes (fun x hx => hlt x (by simp [hx])) h1
 ·rw [hv, hvars]; rfl
end
end Go.Proofs.YteadghhmoggjnaaB
end
section
namespace Go.Proofs.YteadghhmoggjnaaB
open Go.ChangeShapes Go.WideShapes Go.ChangeAt Go.RowKit Go.Deep
open Yteadghhmoggjnaa.Q (S33 k33 z33)
open YteadghhmoggjnaaW.PrintWords (Kd ReadsRow)
set_option maxRecDepth 1000000
set_option maxHeartbeats 1600000
theorem own_ : ownKnob Try.prog.godebug = none := by kernel_rfl
theorem laidOut_ : laidOutB Try.prog = true := by kernel_rfl
theorem i64_bounds {n : Int} (h : (Lit.int .i64 n).wf = true) : -9223372036854775808 ≤ n ∧ n ≤ 9223372036854775807 := by
 have h1 : (decide (IntKind.min .i64 ≤ n) && decide (n ≤ IntKind.max .i64)) = true := h
 have e1 : IntKind.min .i64 = -9223372036854775808 := by decide
 have e2 : IntKind.max .i64 = 9223372036854775807 := by decide
 rw [e1, e2] at h1
 simpa using h1
theorem list_of {α : Type} {Q : Nat → α → Prop} : ∀ (n : Nat), (∀ i, i < n → ∃ x, Q i x) → ∃ l : List α, l.length = n ∧ ∀ i x, l[i]? = some x → Q i x
 | 0, _ => ⟨[], rfl, fun i x h => by simp at h⟩
 | n + 1, h => by
  obtain ⟨l, hl, hq⟩ := list_of n fun i hi => h i (by omega)
  obtain ⟨x, hx⟩ := h n (by omega)
  refine ⟨l ++ [x], by simp [hl], fun i y hy => ?_⟩
  rcases Nat.lt_or_ge i l.length with hi | hi
  ·rw [List.getElem?_append_left hi] at hy; exact hq i y hy
  ·rw [List.getElem?_append_right hi] at hy
   have h0 : i - l.length = 0 := by
    rcases Nat.eq_zero_or_pos (i - l.length) with h | h
    ·exact h
    ·rw [List.getElem?_eq_none (by simp; omega)] at hy; cases hy
   rw [h0] at hy
   have e1 : i = n := by omega
   have e2 : x = y := by simpa using hy
   rw [e1, ← e2]; exact hx
def Light {H : Type} (P : Program) (t : TypeId) (d : DataW H) : Prop := ∀ n ∈ d.weights P t, n ≤ reachBytes
section
variable {H : Type} {enc : TypeId × Value → H} {P : Program} {w : World} {spare : Nat → Bool} {held : Bool}
theorem weightsAll_mem {e : TypeId} : ∀ {l : List (DataW H)} {d : DataW H}, d ∈ l → ∀ n ∈ d.weights P e, n ∈ DataW.weightsAll P e l
 | d' :: r, d, hd, n, hn => by
  simp only [DataW.weightsAll, List.mem_append]
  rcases List.mem_cons.1 hd with rfl | h
  ·exact Or.inl hn
  ·exact Or.inr (weightsAll_mem h n hn)
theorem Light.field {t : TypeId} {fs : Array Field} {ys : List (DataW H × List MemPlace)} (ht : P.underlying t = some (.struct fs)) (h : Light P t (.agg (ys.map (·.1)))) {i : Nat} {f : Field} {y : DataW H × List MemPlace} (hf : fs[i]? = some f) (hy : ys[i]? = some y) : Light P f.type y.1 := fun n hn => by
 refine h n ?_
 simp only [DataW.weights, ht]
 exact DataW.weights_mem_each (j := i) (t := f.type) (d := y.1) (by rw [List.getElem?_map, Array.getElem?_toList, hf]; rfl) (by rw [List.getElem?_map, hy]; rfl) n hn
theorem open_kindS {α : Type} (d : Kind α) (Pz : α → Prop) {t e : TypeId} {cs0 : List Value} {x : DataW H × List MemPlace} {fuel : Nat} (ht : P.underlying t = some (.slice e)) (hsz : P.cellsOf e = d.sz) (hs0 : 0 < d.sz)
  (hel : ∀ (n : Nat) (cs : List Value) (y : DataW H × List MemPlace), cs.length = d.sz → DataW.trod enc P w 0 spare held n e cs = some y → Light P e y.1 → ∃ z : α, d.K w (fun _ => True) z cs ∧ Pz z)
  (hf : DataW.trod enc P w 0 spare held fuel t cs0 = some x) (hx : Light P t x.1) : ∃ A n c l, cs0 = [.slice A n c] ∧ n ≤ c ∧ c ≤ maxLen ∧ d.Rd w (fun _ => True) A n l ∧ (∀ z ∈ l, Pz z) ∧ n * P.bytesOf e ≤ reachBytes := by
 rcases open_slice ht hf with ⟨hc, -⟩ | ⟨a, len, cap, m, n, D, Pl, hc, hb, hl, hm, hmm, hxe, hi⟩
 ·exact ⟨none, 0, 0, [], hc, Nat.le_refl _, Nat.zero_le _, Kind.Rd.nil _ _ _ _, (fun z hz => by cases hz), (by rw [Nat.zero_mul]; exact Nat.zero_le _)⟩
 ·refine ⟨some a, len, cap, ?_⟩
  have hlm : len ≤ m := by rw [hmm]; split <;> omega
  have hw1 : ∀ i, i < len → Light P e (D i) := fun i hil n hn => by
   refine hx n ?_
   rw [hxe]
   simp only [DataW.weights, ht, List.mem_cons, List.mem_append]
   exact .inr (.inl (weightsAll_mem (List.mem_map.2 ⟨i, List.mem_range.2 hil, rfl⟩) n hn))
  have hw2 : len * P.bytesOf e ≤ reachBytes := by
   have := hx ((len + (m - len)) * P.bytesOf e) (by
    rw [hxe]
    simp [DataW.weights, ht])
   exact Nat.le_trans (Nat.mul_le_mul_right _ (Nat.le_add_right _ _)) this
  have hq : ∀ i, i < len → ∃ z : α, Pz z ∧ ∃ cs, d.K w (fun _ => True) z cs ∧ ∀ j u, cs[j]? = some u → w.cell? (a.add (i * d.sz + j)) = some u := by
   intro i hil
   obtain ⟨cs', h1, h2⟩ := hi i (by omega)
   rw [hsz] at h1
   obtain ⟨-, hlen, hat⟩ := World.cells?_some h1
   obtain ⟨z, hz, hPz⟩ := hel n cs' _ hlen h2 (hw1 i hil)
   refine ⟨z, hPz, cs', hz, fun j u hu => ?_⟩
   have hj : j < d.sz := by rw [← hlen]; exact (List.getElem?_eq_some_iff.1 hu).1
   rw [← add_add, hat j hj, hu]
  obtain ⟨l, hll, hlq⟩ := list_of len hq
  refine ⟨l, hc, hl, hm, ⟨hll, fun hp => ?_⟩, fun z hz => ?_, hw2⟩
  ·obtain ⟨z, hz⟩ : ∃ z, l[0]? = some z := ⟨_, List.getElem?_eq_getElem (by omega)⟩
   obtain ⟨-, cs, hK, hcell⟩ := hlq 0 z hz
   obtain ⟨u, hu⟩ : ∃ u, cs[0]? = some u := ⟨_, List.getElem?_eq_getElem (by rw [d.len hK]; omega)⟩
   have h0 := hcell 0 u hu
   rw [Nat.zero_mul, Nat.add_zero] at h0
   have ha : a.add 0 = a := by unfold Addr.add; rw [if_pos rfl]
   rw [ha] at h0
   have hfl := addr_flat h0
   refine ⟨a.block, a.off, congrArg some hfl, trivial, ?_, fun i y hy => ?_⟩
   ·rw [hfl] at h0; exact cell_lt h0
   ·obtain ⟨-, cs, hK, hcell⟩ := hlq i y hy
    refine ⟨cs, hK, fun j u hu => ?_⟩
    have := hcell j u hu
    rw [hfl, Addr.add_lit] at this
    rw [← this, Nat.add_assoc]
  ·obtain ⟨i, hi, rfl⟩ := List.mem_iff_getElem.1 hz
   exact (hlq i _ (List.getElem?_eq_getElem hi)).1
end
section
variable {H : Type} {enc : TypeId × Value → H} {w : World} {spare : Nat → Bool} {held : Bool}
theorem int_el (n : Nat) (cs : List Value) (y : DataW H × List MemPlace) (hl : cs.length = Kind.int.sz) (h : DataW.trod enc Try.prog w 0 spare held n 3 cs = some y) (hy : Light Try.prog 3 y.1) : ∃ z : Int, Kind.int.K w (fun _ => True) z cs ∧ True := by
 obtain ⟨k, e0, -, -⟩ := DataW.trod_int Try.underlying3 h
 exact ⟨k, e0, trivial⟩
theorem open_made {r : Reach} {b0 : Nat} {v : Value} {x : DataW H} {ps : List MemPlace} (hval : Value.okWide Try.prog w r b0 56 v) (h : DataW.Trod enc Try.prog w 0 spare held 56 v x ps) (hx : Light Try.prog 56 x) :
  ∃ (A0 : Option Addr) (c0 : Nat) (ns : List Int) (len rest hy : Int) (A4 : Option Addr) (c4 : Nat) (pl : List Int),
   v = .agg #[.slice A0 ns.length c0, .int .i64 len, .int .i64 rest, .int .i64 hy, .slice A4 pl.length c4] ∧
   ns.length ≤ c0 ∧ pl.length ≤ c4 ∧ (Kd.int .i64).C w A0 ns.length ns ∧ (Kd.int .i64).C w A4 pl.length pl ∧ ((-9223372036854775808 ≤ len ∧ len ≤ 9223372036854775807) ∧ (-9223372036854775808 ≤ rest ∧ rest ≤ 9223372036854775807) ∧ (-9223372036854775808 ≤ hy ∧ hy ≤ 9223372036854775807)) := by
 obtain ⟨cs, rfl, hsz⟩ := okWide_struct Try.underlying56 hval
 obtain ⟨fuel, hf0⟩ := h
 have hc : Try.prog.cellsOf 56 = 5 := by kernel_rfl
 rw [hc] at hsz
 obtain ⟨ys, n', -, hye, -, hyl, hf⟩ := DataW.trod_struct Try.underlying56 hf0
 have hxe : x = .agg (ys.map (·.1)) := by injection hye
 rw [hxe] at hx
 obtain ⟨cl, rfl⟩ : ∃ l : List Value, cs = l.toArray := ⟨cs.toList, by simp⟩
 have h5 : cl.length = 5 := by simpa using hsz
 have hy5 : ys.length = 5 := hyl
 match cl, h5 with
 | [a0, a1, a2, a3, a4], _ =>
  have f0 := hf 0 _ rfl
  have f1 := hf 1 _ rfl
  have f2 := hf 2 _ rfl
  have f3 := hf 3 _ rfl
  have f4 := hf 4 _ rfl
  have w0 := hx.field Try.underlying56 (i := 0) rfl (List.getElem?_eq_getElem (by omega))
  have w4 := hx.field Try.underlying56 (i := 4) rfl (List.getElem?_eq_getElem (by omega))
  rw [List.getElem?_eq_getElem (by omega)] at f0 f1 f2 f3 f4
  have ci : Try.prog.cellsOf 3 = 1 := by kernel_rfl
  have cn : Try.prog.cellsOf 22 = 1 := by kernel_rfl
  obtain ⟨A0, m0, c0, ns, e0, hmc0, hcm0, hr0, -, -⟩ := open_kindS Kind.int (fun _ => True) Try.underlying22 (by kernel_rfl) (by decide) int_el f0 w0
  obtain ⟨k1, e1, -, b1⟩ := DataW.trod_int Try.underlying3 f1
  obtain ⟨k2, e2, -, b2⟩ := DataW.trod_int Try.underlying3 f2
  obtain ⟨k3, e3, -, b3⟩ := DataW.trod_int Try.underlying3 f3
  obtain ⟨A4, m4, c4, pl, e4, hmc4, hcm4, hr4, -, -⟩ := open_kindS Kind.int (fun _ => True) Try.underlying22 (by kernel_rfl) (by decide) int_el f4 w4
  have g0 : List.take (Try.prog.cellsOf 22) [a0, a1, a2, a3, a4] = [.slice A0 m0 c0] := e0
  have g1 : List.take (Try.prog.cellsOf 3) [a1, a2, a3, a4] = [.int .i64 k1] := e1
  have g2 : List.take (Try.prog.cellsOf 3) [a2, a3, a4] = [.int .i64 k2] := e2
  have g3 : List.take (Try.prog.cellsOf 3) [a3, a4] = [.int .i64 k3] := e3
  have g4 : List.take (Try.prog.cellsOf 22) [a4] = [.slice A4 m4 c4] := e4
  rw [ci] at g1 g2 g3
  rw [cn] at g0 g4
  have z0 : a0 = .slice A0 m0 c0 := by simpa using g0
  have z1 : a1 = .int .i64 k1 := by simpa using g1
  have z2 : a2 = .int .i64 k2 := by simpa using g2
  have z3 : a3 = .int .i64 k3 := by simpa using g3
  have z4 : a4 = .slice A4 m4 c4 := by simpa using g4
  have hm : maxLen = 9223372036854775807 := rfl
  have hl0 : ns.length = m0 := hr0.1
  have hl4 : pl.length = m4 := hr4.1
  subst hl0
  subst hl4
  exact ⟨A0, c0, ns, k1, k2, k3, A4, c4, pl, by rw [z0, z1, z2, z3, z4], hmc0, hmc4, C_ints (by omega) hr0, C_ints (by omega) hr4, i64_bounds b1, i64_bounds b2, i64_bounds b3⟩
end
end Go.Proofs.YteadghhmoggjnaaB
end
