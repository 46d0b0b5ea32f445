import Derived.Test.YteadghhmoggjnaaRows
import Derived.ProofKit
import Derived.Test.YteadghhmoggjnaaFR10
import Derived.Test.YteadghhmoggjnaaFR5
import Derived.Test.YteadghhmoggjnaaFR37
import Derived.Test.YteadghhmoggjnaaFR36
import Derived.Test.YteadghhmoggjnaaFR35
set_option linter.unusedVariables false
set_option linter.unusedSimpArgs false
section
namespace Go.Proofs.Yteadghhmoggjnaa.Q
open Go.RowKit Go.Proofs.YteadghhmoggjnaaW.PrintWords Go.Proofs.YteadghhmoggjnaaW.PrintLast Go.Proofs.YteadghhmoggjnaaW.PrintMore
attribute [local go_sem] max2_int max_two
set_option maxHeartbeats 8000000
set_option maxRecDepth 100000
def w_FillRaw.j0 : Nat → List (S33) → Int → Int → Int → List Int → Bool → Int → Int → Int → Int → ByteArray → ByteArray → List Int → Option (Bool)
 | 0, _, _, _, _, _, _, _, _, _, _, _, _, _ => none
 | k + 1, x3, x4, x5, x7, x8, x28, hh0, hh1, hh2, hh3, hh4, hh5, hh6 => if x28 = true then ((w_sane.f).bind fun t710 => (some t710)) else ((w_same.f k x3 x4 x5 hh0 hh1 hh2 hh3 hh4 hh5 hh6 x7 ((Int.tmod x4 2) == 0) x8).bind fun t711 => (if t711 = true then ((w_sane.f).bind fun t712 => (some t712)) else (some false)))
def w_FillRaw.f (k : Nat) (l0_0 : List (S33)) (a0_1 : Int) (a0_2 : Int) (a0_3 : Int) (a0_4 : Int) (a0_5 : Int) (a0_6 : Int) (a0_7 : ByteArray) (a0_8 : ByteArray) (l0_9 : List Int) (a0_10 : Int) (l0_11 : List Int) : Option (Bool) := if (l0_0.length : Int) > 400 then (w_FillRaw.j0 k l0_0 a0_1 a0_2 a0_10 l0_11 true a0_3 a0_4 a0_5 a0_6 a0_7 a0_8 l0_9) else (w_FillRaw.j0 k l0_0 a0_1 a0_2 a0_10 l0_11 (decide ((l0_11.length : Int) > 400)) a0_3 a0_4 a0_5 a0_6 a0_7 a0_8 l0_9)
def w_FillRaw.T1 : Bool × List (List Nat × List Nat) := (true, [([], []), ([0], [0]), ([], []), ([2], [2]), ([], []), ([4], [4]), ([], []), ([6], [6]), ([], []), ([8], [8]), ([], []), ([10], [10]), ([], []), ([1, 0, 1, 12], [1]), ([3, 13, 0, 1, 2, 3, 12, 13], [3]), ([5, 14, 0, 1, 2, 3, 4, 5, 12, 13, 14], [5]), ([12, 7, 15, 0, 1, 2, 3, 4, 5, 6, 7, 12, 13, 14, 15], [7, 12]), ([9, 16, 0, 1, 2, 3, 4, 5, 6, 7, 8, 9, 12, 13, 14, 15, 16], [9]), ([11, 17, 0, 1, 2, 3, 4, 5, 6, 7, 8, 9, 10, 11, 12, 13, 14, 15, 16, 17], [11])])
def w_FillRaw.B1 : List Nat := [0, 1, 0, 4, 0, 16, 0, 64, 0, 256, 0, 1024, 0, 4099, 12303, 28735, 61695, 127999, 262143]
theorem w_FillRaw.tab1 : rtab .any (opsOf Try.f8 1) = w_FillRaw.T1 := by kernel_rfl
theorem w_FillRaw.bits1 : waitsOk w_FillRaw.T1.2 w_FillRaw.B1 = true := by kernel_rfl
theorem w_FillRaw.calls (k : Nat) (A0_0 : Option Addr) (c0_0 : Nat) (l0_0 : List (S33)) (a0_1 : Int) (a0_2 : Int) (a0_3 : Int) (a0_4 : Int) (a0_5 : Int) (a0_6 : Int) (a0_7 : ByteArray) (a0_8 : ByteArray) (A0_9 : Option Addr) (c0_9 : Nat) (l0_9 : List Int) (a0_10 : Int) (A0_11 : Option Addr) (c0_11 : Nat) (l0_11 : List Int) (r : Bool) (w : World) (hr0_0 : Kd.C k33 w A0_0 l0_0.length l0_0) (hc0_0 : l0_0.length ≤ c0_0) (hr0_9 : Kd.C (Kd.int .i64) w A0_9 l0_9.length l0_9) (hc0_9 : l0_9.length ≤ c0_9) (hr0_11 : Kd.C (Kd.int .i64) w A0_11 l0_11.length l0_11) (hc0_11 : l0_11.length ≤ c0_11) (h : w_FillRaw.f k l0_0 a0_1 a0_2 a0_3 a0_4 a0_5 a0_6 a0_7 a0_8 l0_9 a0_10 l0_11 = some r) :
  Calls Try.prog 8 #[.agg #[.slice A0_0 l0_0.length c0_0, .int .i64 a0_1, .int .i64 a0_2, .int .i64 a0_3, .int .i64 a0_4, .int .i64 a0_5, .int .i64 a0_6, .string a0_7, .string a0_8, .slice A0_9 l0_9.length c0_9, .int .u8 a0_10, .slice A0_11 l0_11.length c0_11]] w fun e w' => e = .returned (.bool r) ∧ Below w.heap.size w w' := by
 have hu52 := Try.underlying52
 have hu33 := Try.underlying33
 have HR0_0 := As.mk hr0_0
 have HC0_0 := As.mk hc0_0
 clear hr0_0 hc0_0
 have HR0_9 := As.mk hr0_9
 have HC0_9 := As.mk hc0_9
 clear hr0_9 hc0_9
 have HR0_11 := As.mk hr0_11
 have HC0_11 := As.mk hc0_11
 clear hr0_11 hc0_11
 have HB := As.mk (Below.refl w.heap.size w)
 have H : (if (l0_0.length : Int) > 400 then (w_FillRaw.j0 k l0_0 a0_1 a0_2 a0_10 l0_11 true a0_3 a0_4 a0_5 a0_6 a0_7 a0_8 l0_9) else (w_FillRaw.j0 k l0_0 a0_1 a0_2 a0_10 l0_11 (decide ((l0_11.length : Int) > 400)) a0_3 a0_4 a0_5 a0_6 a0_7 a0_8 l0_9)) = some r := h
 clear h
 have HC2 := As.mk H
 clear H
 go_enter Try.func8, Try.ntmps8
 try go_wp2_with (first | ((with_reducible refine gate_dst (N := 1) rfl ?_); (try (refine gate_guard (by rfl) ?_; dsimp only)); refine box_event ?hg (N := 1) ?hd (cs := #[.slice A0_0 l0_0.length c0_0, .int .i64 a0_1, .int .i64 a0_2, .int .i64 a0_3, .int .i64 a0_4, .int .i64 a0_5, .int .i64 a0_6, .string a0_7, .string a0_8, .slice A0_9 l0_9.length c0_9, .int .u8 a0_10, .slice A0_11 l0_11.length c0_11]) (t := 52) ?hr ?_; (case hd => rfl); (case hg => rfl); (case hr => first | (go_simp; done) | (go_simp; rfl)); intro gb708 hg w3 hbox hb; have n0_ := As.mk (below_step (bl HB.out) hb); have n1_ := As.mk (hbox); have n2_ := As.mk ((by rw [hg]; exact (below_size (bl HB.out)) : w.heap.size ≤ gb708)); have n3_ := As.mk ((by rw [hg]; exact (below_size (bl HB.out)) : w.heap.size ≤ gb708)); clear HB; have HB := n0_; have BK708 := n1_; have GW708 := n2_; have GE708 := n3_; clear n0_ n1_ n2_ n3_; clear hb hbox hg))
 have n0_ := As.mk (blk_drew BK708.out)
 have n1_ := As.mk (below_drew1 HB.out)
 clear BK708
 clear HB
 have BK708 := n0_
 have HB := n1_
 clear n0_ n1_
 refine start_ (n := 19) (S := fun w' => w'.cell? ⟨gb708, 0, none⟩ = some (.slice A0_0 l0_0.length c0_0) ∧ w'.cell? ⟨gb708, 1, none⟩ = some (.int .i64 a0_1) ∧ w'.cell? ⟨gb708, 2, none⟩ = some (.int .i64 a0_2) ∧ w'.cell? ⟨gb708, 3, none⟩ = some (.int .i64 a0_3) ∧ w'.cell? ⟨gb708, 4, none⟩ = some (.int .i64 a0_4) ∧ w'.cell? ⟨gb708, 5, none⟩ = some (.int .i64 a0_5) ∧ w'.cell? ⟨gb708, 6, none⟩ = some (.int .i64 a0_6) ∧ w'.cell? ⟨gb708, 7, none⟩ = some (.string a0_7) ∧ w'.cell? ⟨gb708, 8, none⟩ = some (.string a0_8) ∧ w'.cell? ⟨gb708, 9, none⟩ = some (.slice A0_9 l0_9.length c0_9) ∧ w'.cell? ⟨gb708, 10, none⟩ = some (.int .u8 a0_10) ∧ w'.cell? ⟨gb708, 11, none⟩ = some (.slice A0_11 l0_11.length c0_11)) (ds := []) #[false, false, false, false, false, false, false, false, false, false, false, false, false, false, false, false, false, false, false] (by kernel_rfl) rfl rfl ⟨(blk_cell BK708.out 0).trans rfl, (blk_cell BK708.out 1).trans rfl, (blk_cell BK708.out 2).trans rfl, (blk_cell BK708.out 3).trans rfl, (blk_cell BK708.out 4).trans rfl, (blk_cell BK708.out 5).trans rfl, (blk_cell BK708.out 6).trans rfl, (blk_cell BK708.out 7).trans rfl, (blk_cell BK708.out 8).trans rfl, (blk_cell BK708.out 9).trans rfl, (blk_cell BK708.out 10).trans rfl, (blk_cell BK708.out 11).trans rfl⟩ (fun hHeld => ?_); refine with_tabW w_FillRaw.tab1 w_FillRaw.bits1 (fun HT_ HW_ => ?_)
 generalize w3.drew = w4 at BK708 HB hHeld ⊢
 refine pu 0 9 HT_.out (h := ?_)
 refine pu 2 11 HT_.out (h := ?_)
 refine pu 4 13 HT_.out (h := ?_)
 refine pu 6 15 HT_.out (h := ?_)
 refine pu 8 17 HT_.out (h := ?_)
 refine pu 10 19 HT_.out (h := ?_)
 refine tk 1 10 HT_.out HW_.out hHeld (hy := by rintro w' ⟨s0, s1, s2, s3, s4, s5, s6, s7, s8, s9, s10, s11⟩; go_simp; with_reducible rfl) (h := ?_)
 refine tk 3 12 HT_.out HW_.out hHeld (hy := by rintro w' ⟨s0, s1, s2, s3, s4, s5, s6, s7, s8, s9, s10, s11⟩; go_simp; with_reducible rfl) (h := ?_)
 refine tk 5 14 HT_.out HW_.out hHeld (hy := by rintro w' ⟨s0, s1, s2, s3, s4, s5, s6, s7, s8, s9, s10, s11⟩; go_simp; with_reducible rfl) (h := ?_)
 refine tk 7 16 HT_.out HW_.out hHeld (hy := by rintro w' ⟨s0, s1, s2, s3, s4, s5, s6, s7, s8, s9, s10, s11⟩; go_simp; with_reducible rfl) (h := ?_)
 refine tk 9 18 HT_.out HW_.out hHeld (hy := by rintro w' ⟨s0, s1, s2, s3, s4, s5, s6, s7, s8, s9, s10, s11⟩; go_simp; with_reducible rfl) (h := ?_)
 refine tk 11 20 HT_.out HW_.out hHeld (hy := by rintro w' ⟨s0, s1, s2, s3, s4, s5, s6, s7, s8, s9, s10, s11⟩; go_simp; with_reducible rfl) (h := ?_)
 refine one_ (i := 12) (N := some 6) #[true, true, true, true, true, true, true, true, true, true, true, true, true, false, false, false, false, false, false] rfl rfl (one_of HT_.out (by kernel_rfl)) (by decide) (fun K hK => ?_)
 refine box_step ?hg (N := 6) ?hd (cs := #[.int .i64 0, .int .i64 0, .int .i64 0, .int .i64 0, .string (⟨#[]⟩ : ByteArray), .string (⟨#[]⟩ : ByteArray), .slice none 0 0]) (t := 33) ?hr ?_; (case hd => rfl); (case hg => rfl); (case hr => first | (go_simp; done) | (go_simp; rfl))
 intro gb709 hg w5 hbox hb
 have n0_ := As.mk (blk_below (g := gb708) (o := .cells #[.slice A0_0 l0_0.length c0_0, .int .i64 a0_1, .int .i64 a0_2, .int .i64 a0_3, .int .i64 a0_4, .int .i64 a0_5, .int .i64 a0_6, .string a0_7, .string a0_8, .slice A0_9 l0_9.length c0_9, .int .u8 a0_10, .slice A0_11 l0_11.length c0_11] 52 (0, 0)) (bu BK708.out) hb)
 have n1_ := As.mk (below_step (bl HB.out) hb)
 have n2_ := As.mk (hbox)
 have n3_ := As.mk ((by rw [hg]; exact (below_size (bl HB.out)) : w.heap.size ≤ gb709))
 have n4_ := As.mk ((by rw [hg]; exact (below_size (bl HB.out)) : w.heap.size ≤ gb709))
 have n5_ := As.mk ((by rw [hg]; exact Nat.ne_of_lt (blk_lt (g := gb708) (o := .cells #[.slice A0_0 l0_0.length c0_0, .int .i64 a0_1, .int .i64 a0_2, .int .i64 a0_3, .int .i64 a0_4, .int .i64 a0_5, .int .i64 a0_6, .string a0_7, .string a0_8, .slice A0_9 l0_9.length c0_9, .int .u8 a0_10, .slice A0_11 l0_11.length c0_11] 52 (0, 0)) (bu BK708.out)) : gb708 ≠ gb709))
 have n6_ := As.mk ((by rw [hg]; exact Nat.ne_of_gt (blk_lt (g := gb708) (o := .cells #[.slice A0_0 l0_0.length c0_0, .int .i64 a0_1, .int .i64 a0_2, .int .i64 a0_3, .int .i64 a0_4, .int .i64 a0_5, .int .i64 a0_6, .string a0_7, .string a0_8, .slice A0_9 l0_9.length c0_9, .int .u8 a0_10, .slice A0_11 l0_11.length c0_11] 52 (0, 0)) (bu BK708.out)) : gb709 ≠ gb708))
 clear BK708
 clear HB
 have BK708 := n0_
 have HB := n1_
 have BK709 := n2_
 have GW709 := n3_
 have GE709 := n4_
 have NB708_709 := n5_
 have NB709_708 := n6_
 clear n0_ n1_ n2_ n3_ n4_ n5_ n6_
 clear hb hbox hg
 refine hK.out _ _ ⟨(blk_cell BK708.out 0).trans rfl, (blk_cell BK708.out 1).trans rfl, (blk_cell BK708.out 2).trans rfl, (blk_cell BK708.out 3).trans rfl, (blk_cell BK708.out 4).trans rfl, (blk_cell BK708.out 5).trans rfl, (blk_cell BK708.out 6).trans rfl, (blk_cell BK708.out 7).trans rfl, (blk_cell BK708.out 8).trans rfl, (blk_cell BK708.out 9).trans rfl, (blk_cell BK708.out 10).trans rfl, (blk_cell BK708.out 11).trans rfl⟩ (fun hHeld => ?_)
 clear hK K
 refine norm_ (a' := ?_) ?_ ?_
 rotate_left
 ·show Act.put _ (some 6) _ = _
  simp only [Act.put, List.setIfInBounds_toArray, List.set_cons_zero, List.set_cons_succ, i64_w, i32_w]
  rfl
 refine pu 13 3 HT_.out (h := ?_)
 refine pu 14 4 HT_.out (h := ?_)
 refine pu 15 5 HT_.out (h := ?_)
 refine one_ (i := 16) (N := none) #[true, true, true, true, true, true, true, true, true, true, true, true, true, true, true, true, true, false, false] rfl rfl (one_of HT_.out (by kernel_rfl)) (by decide) (fun K hK => ?_)
 have hs6 : w5.cell? ⟨gb709, 0, none⟩ = some (.int .i64 0) := (blk_cell BK709.out 0).trans rfl
 have hfs6 := blk_frozen BK709.out 0
 have hns6_0 := NB708_709.out
 have hms6_0 := NB709_708.out
 have hs7 : w5.cell? ⟨gb709, 1, none⟩ = some (.int .i64 0) := (blk_cell BK709.out 1).trans rfl
 have hfs7 := blk_frozen BK709.out 1
 have hns7_0 := NB708_709.out
 have hms7_0 := NB709_708.out
 have hs8 : w5.cell? ⟨gb709, 2, none⟩ = some (.int .i64 0) := (blk_cell BK709.out 2).trans rfl
 have hfs8 := blk_frozen BK709.out 2
 have hns8_0 := NB708_709.out
 have hms8_0 := NB709_708.out
 have hs9 : w5.cell? ⟨gb709, 3, none⟩ = some (.int .i64 0) := (blk_cell BK709.out 3).trans rfl
 have hfs9 := blk_frozen BK709.out 3
 have hns9_0 := NB708_709.out
 have hms9_0 := NB709_708.out
 have hs10 : w5.cell? ⟨gb709, 4, none⟩ = some (.string (⟨#[]⟩ : ByteArray)) := (blk_cell BK709.out 4).trans rfl
 have hfs10 := blk_frozen BK709.out 4
 have hns10_0 := NB708_709.out
 have hms10_0 := NB709_708.out
 have hs11 : w5.cell? ⟨gb709, 5, none⟩ = some (.string (⟨#[]⟩ : ByteArray)) := (blk_cell BK709.out 5).trans rfl
 have hfs11 := blk_frozen BK709.out 5
 have hns11_0 := NB708_709.out
 have hms11_0 := NB709_708.out
 have hs12 : w5.cell? ⟨gb709, 6, none⟩ = some (.slice none 0 0) := (blk_cell BK709.out 6).trans rfl
 have hfs12 := blk_frozen BK709.out 6
 have hns12_0 := NB708_709.out
 have hms12_0 := NB709_708.out
 refine skip_ (w1 := ?_) (by rfl) rfl ?_ ?_
 rotate_left
 ·go_simp
  rfl
 refine hK.out _ _ ⟨((cell_far (p := ⟨gb709, _, none⟩) NB708_709.out _).trans (((cell_far (p := ⟨gb709, _, none⟩) NB708_709.out _).trans (((cell_far (p := ⟨gb709, _, none⟩) NB708_709.out _).trans (((cell_far (p := ⟨gb709, _, none⟩) NB708_709.out _).trans (((cell_far (p := ⟨gb709, _, none⟩) NB708_709.out _).trans (((cell_far (p := ⟨gb709, _, none⟩) NB708_709.out _).trans (((cell_far (p := ⟨gb709, _, none⟩) NB708_709.out _).trans (hHeld.1)))))))))))))), ((cell_far (p := ⟨gb709, _, none⟩) NB708_709.out _).trans (((cell_far (p := ⟨gb709, _, none⟩) NB708_709.out _).trans (((cell_far (p := ⟨gb709, _, none⟩) NB708_709.out _).trans (((cell_far (p := ⟨gb709, _, none⟩) NB708_709.out _).trans (((cell_far (p := ⟨gb709, _, none⟩) NB708_709.out _).trans (((cell_far (p := ⟨gb709, _, none⟩) NB708_709.out _).trans (((cell_far (p := ⟨gb709, _, none⟩) NB708_709.out _).trans (hHeld.2.1)))))))))))))), ((cell_far (p := ⟨gb709, _, none⟩) NB708_709.out _).trans (((cell_far (p := ⟨gb709, _, none⟩) NB708_709.out _).trans (((cell_far (p := ⟨gb709, _, none⟩) NB708_709.out _).trans (((cell_far (p := ⟨gb709, _, none⟩) NB708_709.out _).trans (((cell_far (p := ⟨gb709, _, none⟩) NB708_709.out _).trans (((cell_far (p := ⟨gb709, _, none⟩) NB708_709.out _).trans (((cell_far (p := ⟨gb709, _, none⟩) NB708_709.out _).trans (hHeld.2.2.1)))))))))))))), ((cell_far (p := ⟨gb709, _, none⟩) NB708_709.out _).trans (((cell_far (p := ⟨gb709, _, none⟩) NB708_709.out _).trans (((cell_far (p := ⟨gb709, _, none⟩) NB708_709.out _).trans (((cell_far (p := ⟨gb709, _, none⟩) NB708_709.out _).trans (((cell_far (p := ⟨gb709, _, none⟩) NB708_709.out _).trans (((cell_far (p := ⟨gb709, _, none⟩) NB708_709.out _).trans (((cell_far (p := ⟨gb709, _, none⟩) NB708_709.out _).trans (hHeld.2.2.2.1)))))))))))))), ((cell_far (p := ⟨gb709, _, none⟩) NB708_709.out _).trans (((cell_far (p := ⟨gb709, _, none⟩) NB708_709.out _).trans (((cell_far (p := ⟨gb709, _, none⟩) NB708_709.out _).trans (((cell_far (p := ⟨gb709, _, none⟩) NB708_709.out _).trans (((cell_far (p := ⟨gb709, _, none⟩) NB708_709.out _).trans (((cell_far (p := ⟨gb709, _, none⟩) NB708_709.out _).trans (((cell_far (p := ⟨gb709, _, none⟩) NB708_709.out _).trans (hHeld.2.2.2.2.1)))))))))))))), ((cell_far (p := ⟨gb709, _, none⟩) NB708_709.out _).trans (((cell_far (p := ⟨gb709, _, none⟩) NB708_709.out _).trans (((cell_far (p := ⟨gb709, _, none⟩) NB708_709.out _).trans (((cell_far (p := ⟨gb709, _, none⟩) NB708_709.out _).trans (((cell_far (p := ⟨gb709, _, none⟩) NB708_709.out _).trans (((cell_far (p := ⟨gb709, _, none⟩) NB708_709.out _).trans (((cell_far (p := ⟨gb709, _, none⟩) NB708_709.out _).trans (hHeld.2.2.2.2.2.1)))))))))))))), ((cell_far (p := ⟨gb709, _, none⟩) NB708_709.out _).trans (((cell_far (p := ⟨gb709, _, none⟩) NB708_709.out _).trans (((cell_far (p := ⟨gb709, _, none⟩) NB708_709.out _).trans (((cell_far (p := ⟨gb709, _, none⟩) NB708_709.out _).trans (((cell_far (p := ⟨gb709, _, none⟩) NB708_709.out _).trans (((cell_far (p := ⟨gb709, _, none⟩) NB708_709.out _).trans (((cell_far (p := ⟨gb709, _, none⟩) NB708_709.out _).trans (hHeld.2.2.2.2.2.2.1)))))))))))))), ((cell_far (p := ⟨gb709, _, none⟩) NB708_709.out _).trans (((cell_far (p := ⟨gb709, _, none⟩) NB708_709.out _).trans (((cell_far (p := ⟨gb709, _, none⟩) NB708_709.out _).trans (((cell_far (p := ⟨gb709, _, none⟩) NB708_709.out _).trans (((cell_far (p := ⟨gb709, _, none⟩) NB708_709.out _).trans (((cell_far (p := ⟨gb709, _, none⟩) NB708_709.out _).trans (((cell_far (p := ⟨gb709, _, none⟩) NB708_709.out _).trans (hHeld.2.2.2.2.2.2.2.1)))))))))))))), ((cell_far (p := ⟨gb709, _, none⟩) NB708_709.out _).trans (((cell_far (p := ⟨gb709, _, none⟩) NB708_709.out _).trans (((cell_far (p := ⟨gb709, _, none⟩) NB708_709.out _).trans (((cell_far (p := ⟨gb709, _, none⟩) NB708_709.out _).trans (((cell_far (p := ⟨gb709, _, none⟩) NB708_709.out _).trans (((cell_far (p := ⟨gb709, _, none⟩) NB708_709.out _).trans (((cell_far (p := ⟨gb709, _, none⟩) NB708_709.out _).trans (hHeld.2.2.2.2.2.2.2.2.1)))))))))))))), ((cell_far (p := ⟨gb709, _, none⟩) NB708_709.out _).trans (((cell_far (p := ⟨gb709, _, none⟩) NB708_709.out _).trans (((cell_far (p := ⟨gb709, _, none⟩) NB708_709.out _).trans (((cell_far (p := ⟨gb709, _, none⟩) NB708_709.out _).trans (((cell_far (p := ⟨gb709, _, none⟩) NB708_709.out _).trans (((cell_far (p := ⟨gb709, _, none⟩) NB708_709.out _).trans (((cell_far (p := ⟨gb709, _, none⟩) NB708_709.out _).trans (hHeld.2.2.2.2.2.2.2.2.2.1)))))))))))))), ((cell_far (p := ⟨gb709, _, none⟩) NB708_709.out _).trans (((cell_far (p := ⟨gb709, _, none⟩) NB708_709.out _).trans (((cell_far (p := ⟨gb709, _, none⟩) NB708_709.out _).trans (((cell_far (p := ⟨gb709, _, none⟩) NB708_709.out _).trans (((cell_far (p := ⟨gb709, _, none⟩) NB708_709.out _).trans (((cell_far (p := ⟨gb709, _, none⟩) NB708_709.out _).trans (((cell_far (p := ⟨gb709, _, none⟩) NB708_709.out _).trans (hHeld.2.2.2.2.2.2.2.2.2.2.1)))))))))))))), ((cell_far (p := ⟨gb709, _, none⟩) NB708_709.out _).trans (((cell_far (p := ⟨gb709, _, none⟩) NB708_709.out _).trans (((cell_far (p := ⟨gb709, _, none⟩) NB708_709.out _).trans (((cell_far (p := ⟨gb709, _, none⟩) NB708_709.out _).trans (((cell_far (p := ⟨gb709, _, none⟩) NB708_709.out _).trans (((cell_far (p := ⟨gb709, _, none⟩) NB708_709.out _).trans (((cell_far (p := ⟨gb709, _, none⟩) NB708_709.out _).trans (hHeld.2.2.2.2.2.2.2.2.2.2.2))))))))))))))⟩ (fun hHeld => ?_)
 clear hK K
 refine pu 17 7 HT_.out (h := ?_)
 refine pu 18 8 HT_.out (h := ?_)
 refine done_ (done_of HT_.out (by kernel_rfl)) ?_
 go_upto_region 2 with (fail)
 go_cut [28] (fun v28 wc => ∃ (kq : Nat) (x28_1 : Bool), v28 = .bool x28_1 ∧ As (w_FillRaw.j0 kq l0_0 a0_1 a0_2 a0_10 l0_11 x28_1 a0_3 a0_4 a0_5 a0_6 a0_7 a0_8 l0_9 = some r) ∧ As (kq ≤ k) ∧ As (wc.heap[gb708]? = some (.cells #[(.slice A0_0 l0_0.length c0_0), .int .i64 a0_1, .int .i64 a0_2, .int .i64 a0_3, .int .i64 a0_4, .int .i64 a0_5, .int .i64 a0_6, .string a0_7, .string a0_8, (.slice A0_9 l0_9.length c0_9), .int .u8 a0_10, (.slice A0_11 l0_11.length c0_11)] 52 (0, 0))) ∧ As (wc.heap[gb709]? = some (.cells #[.int .i64 a0_3, .int .i64 a0_4, .int .i64 a0_5, .int .i64 a0_6, .string a0_7, .string a0_8, (.slice A0_9 l0_9.length c0_9)] 33 (0, 0))) ∧ As (Below w.heap.size w wc))
 case first =>
  have H := HC2.out
  clear HC2
  by_cases c13 : (l0_0.length : Int) > 400
  ·rw [if_pos c13] at H
   have c13b0 : decide (400 < (l0_0.length : Int)) = true := decide_eq_true c13
   have c13b1 : decide (400 < l0_0.length) = true := decide_eq_true (by omega)
   clear c13
   (first | rw [c13b0] | (simp only [i64_w, i32_w]; rw [c13b0]) | skip)
   have H' := As.mk H
   clear H
   go_wp2
   go_meet
   case rel => exact ⟨_, (true), (by first | rfl | simp [*]), H', ⟨by first | omega | exact Nat.le_refl _⟩, ⟨by (with_reducible repeat (first | refine blk_drewN ?_ _ | refine blk_drew ?_ | refine blk_alloc ?_ _)); refine blk_far ?_ NB708_709.out _; (with_reducible repeat (first | refine blk_drewN ?_ _ | refine blk_drew ?_ | refine blk_alloc ?_ _)); refine blk_far ?_ NB708_709.out _; (with_reducible repeat (first | refine blk_drewN ?_ _ | refine blk_drew ?_ | refine blk_alloc ?_ _)); refine blk_far ?_ NB708_709.out _; (with_reducible repeat (first | refine blk_drewN ?_ _ | refine blk_drew ?_ | refine blk_alloc ?_ _)); refine blk_far ?_ NB708_709.out _; (with_reducible repeat (first | refine blk_drewN ?_ _ | refine blk_drew ?_ | refine blk_alloc ?_ _)); refine blk_far ?_ NB708_709.out _; (with_reducible repeat (first | refine blk_drewN ?_ _ | refine blk_drew ?_ | refine blk_alloc ?_ _)); refine blk_far ?_ NB708_709.out _; (with_reducible repeat (first | refine blk_drewN ?_ _ | refine blk_drew ?_ | refine blk_alloc ?_ _)); refine blk_far ?_ NB708_709.out _; (with_reducible repeat (first | refine blk_drewN ?_ _ | refine blk_drew ?_ | refine blk_alloc ?_ _)); exact BK708.out⟩, ⟨by (with_reducible repeat (first | refine blk_drewN ?_ _ | refine blk_drew ?_ | refine blk_alloc ?_ _)); refine blk_put (cs := #[.int .i64 a0_3, .int .i64 a0_4, .int .i64 a0_5, .int .i64 a0_6, .string a0_7, .string a0_8, .slice none 0 0]) ?_ 6 _ rfl; (with_reducible repeat (first | refine blk_drewN ?_ _ | refine blk_drew ?_ | refine blk_alloc ?_ _)); refine blk_put (cs := #[.int .i64 a0_3, .int .i64 a0_4, .int .i64 a0_5, .int .i64 a0_6, .string a0_7, .string (⟨#[]⟩ : ByteArray), .slice none 0 0]) ?_ 5 _ rfl; (with_reducible repeat (first | refine blk_drewN ?_ _ | refine blk_drew ?_ | refine blk_alloc ?_ _)); refine blk_put (cs := #[.int .i64 a0_3, .int .i64 a0_4, .int .i64 a0_5, .int .i64 a0_6, .string (⟨#[]⟩ : ByteArray), .string (⟨#[]⟩ : ByteArray), .slice none 0 0]) ?_ 4 _ rfl; (with_reducible repeat (first | refine blk_drewN ?_ _ | refine blk_drew ?_ | refine blk_alloc ?_ _)); refine blk_put (cs := #[.int .i64 a0_3, .int .i64 a0_4, .int .i64 a0_5, .int .i64 0, .string (⟨#[]⟩ : ByteArray), .string (⟨#[]⟩ : ByteArray), .slice none 0 0]) ?_ 3 _ rfl; (with_reducible repeat (first | refine blk_drewN ?_ _ | refine blk_drew ?_ | refine blk_alloc ?_ _)); refine blk_put (cs := #[.int .i64 a0_3, .int .i64 a0_4, .int .i64 0, .int .i64 0, .string (⟨#[]⟩ : ByteArray), .string (⟨#[]⟩ : ByteArray), .slice none 0 0]) ?_ 2 _ rfl; (with_reducible repeat (first | refine blk_drewN ?_ _ | refine blk_drew ?_ | refine blk_alloc ?_ _)); refine blk_put (cs := #[.int .i64 a0_3, .int .i64 0, .int .i64 0, .int .i64 0, .string (⟨#[]⟩ : ByteArray), .string (⟨#[]⟩ : ByteArray), .slice none 0 0]) ?_ 1 _ rfl; (with_reducible repeat (first | refine blk_drewN ?_ _ | refine blk_drew ?_ | refine blk_alloc ?_ _)); refine blk_put (cs := #[.int .i64 0, .int .i64 0, .int .i64 0, .int .i64 0, .string (⟨#[]⟩ : ByteArray), .string (⟨#[]⟩ : ByteArray), .slice none 0 0]) ?_ 0 _ rfl; (with_reducible repeat (first | refine blk_drewN ?_ _ | refine blk_drew ?_ | refine blk_alloc ?_ _)); exact BK709.out⟩, ⟨by repeat (first | (with_reducible first | exact HB.out | apply below_alloc | apply pw_below_drewN | apply below_drew1 | refine below_set ?_ GE708.out | refine below_set ?_ GE709.out) | exact HB.out)⟩⟩
  rw [if_neg c13] at H
  have c13b0 : decide (400 < (l0_0.length : Int)) = false := decide_eq_false c13
  have c13b1 : decide (400 < l0_0.length) = false := decide_eq_false (by omega)
  clear c13
  (first | rw [c13b0] | (simp only [i64_w, i32_w]; rw [c13b0]) | skip)
  have H' := As.mk H
  clear H
  go_wp2
  go_meet
  case rel => exact ⟨_, (decide ((l0_11.length : Int) > 400)), (by first | rfl | simp [*]), H', ⟨by first | omega | exact Nat.le_refl _⟩, ⟨by (with_reducible repeat (first | refine blk_drewN ?_ _ | refine blk_drew ?_ | refine blk_alloc ?_ _)); refine blk_far ?_ NB708_709.out _; (with_reducible repeat (first | refine blk_drewN ?_ _ | refine blk_drew ?_ | refine blk_alloc ?_ _)); refine blk_far ?_ NB708_709.out _; (with_reducible repeat (first | refine blk_drewN ?_ _ | refine blk_drew ?_ | refine blk_alloc ?_ _)); refine blk_far ?_ NB708_709.out _; (with_reducible repeat (first | refine blk_drewN ?_ _ | refine blk_drew ?_ | refine blk_alloc ?_ _)); refine blk_far ?_ NB708_709.out _; (with_reducible repeat (first | refine blk_drewN ?_ _ | refine blk_drew ?_ | refine blk_alloc ?_ _)); refine blk_far ?_ NB708_709.out _; (with_reducible repeat (first | refine blk_drewN ?_ _ | refine blk_drew ?_ | refine blk_alloc ?_ _)); refine blk_far ?_ NB708_709.out _; (with_reducible repeat (first | refine blk_drewN ?_ _ | refine blk_drew ?_ | refine blk_alloc ?_ _)); refine blk_far ?_ NB708_709.out _; (with_reducible repeat (first | refine blk_drewN ?_ _ | refine blk_drew ?_ | refine blk_alloc ?_ _)); exact BK708.out⟩, ⟨by (with_reducible repeat (first | refine blk_drewN ?_ _ | refine blk_drew ?_ | refine blk_alloc ?_ _)); refine blk_put (cs := #[.int .i64 a0_3, .int .i64 a0_4, .int .i64 a0_5, .int .i64 a0_6, .string a0_7, .string a0_8, .slice none 0 0]) ?_ 6 _ rfl; (with_reducible repeat (first | refine blk_drewN ?_ _ | refine blk_drew ?_ | refine blk_alloc ?_ _)); refine blk_put (cs := #[.int .i64 a0_3, .int .i64 a0_4, .int .i64 a0_5, .int .i64 a0_6, .string a0_7, .string (⟨#[]⟩ : ByteArray), .slice none 0 0]) ?_ 5 _ rfl; (with_reducible repeat (first | refine blk_drewN ?_ _ | refine blk_drew ?_ | refine blk_alloc ?_ _)); refine blk_put (cs := #[.int .i64 a0_3, .int .i64 a0_4, .int .i64 a0_5, .int .i64 a0_6, .string (⟨#[]⟩ : ByteArray), .string (⟨#[]⟩ : ByteArray), .slice none 0 0]) ?_ 4 _ rfl; (with_reducible repeat (first | refine blk_drewN ?_ _ | refine blk_drew ?_ | refine blk_alloc ?_ _)); refine blk_put (cs := #[.int .i64 a0_3, .int .i64 a0_4, .int .i64 a0_5, .int .i64 0, .string (⟨#[]⟩ : ByteArray), .string (⟨#[]⟩ : ByteArray), .slice none 0 0]) ?_ 3 _ rfl; (with_reducible repeat (first | refine blk_drewN ?_ _ | refine blk_drew ?_ | refine blk_alloc ?_ _)); refine blk_put (cs := #[.int .i64 a0_3, .int .i64 a0_4, .int .i64 0, .int .i64 0, .string (⟨#[]⟩ : ByteArray), .string (⟨#[]⟩ : ByteArray), .slice none 0 0]) ?_ 2 _ rfl; (with_reducible repeat (first | refine blk_drewN ?_ _ | refine blk_drew ?_ | refine blk_alloc ?_ _)); refine blk_put (cs := #[.int .i64 a0_3, .int .i64 0, .int .i64 0, .int .i64 0, .string (⟨#[]⟩ : ByteArray), .string (⟨#[]⟩ : ByteArray), .slice none 0 0]) ?_ 1 _ rfl; (with_reducible repeat (first | refine blk_drewN ?_ _ | refine blk_drew ?_ | refine blk_alloc ?_ _)); refine blk_put (cs := #[.int .i64 0, .int .i64 0, .int .i64 0, .int .i64 0, .string (⟨#[]⟩ : ByteArray), .string (⟨#[]⟩ : ByteArray), .slice none 0 0]) ?_ 0 _ rfl; (with_reducible repeat (first | refine blk_drewN ?_ _ | refine blk_drew ?_ | refine blk_alloc ?_ _)); exact BK709.out⟩, ⟨by repeat (first | (with_reducible first | exact HB.out | apply below_alloc | apply pw_below_drewN | apply below_drew1 | refine below_set ?_ GE708.out | refine below_set ?_ GE709.out) | exact HB.out)⟩⟩
 case rest =>
  clear HC2
  obtain ⟨kq, x28_1, rfl, HA, HJ1, BK708, BK709, HB⟩ := hcut
  cases kq with
  | zero => exact absurd HA.out (by simp [w_FillRaw.j0])
  | succ kj1 =>
   have H := HA.out
   clear HA
   simp only [w_FillRaw.j0] at H
   by_cases c14 : x28_1 = true
   ·subst c14
    have H1 : ((w_sane.f).bind fun t710 => (some t710)) = some r := by rw [if_pos rfl] at H; exact H
    clear H
    have H := H1
    clear H1
    replace H := Option.bind_eq_some_iff.mp H
    obtain ⟨t710, A150, H⟩ := H
    try dsimp only at H
    have A15 := As.mk A150
    clear A150
    obtain rfl := Option.some.inj H
    go_wp2_with (first | (go_at_call 15; (with_reducible refine (w_sane.calls  t710 _ A15.out).mono ?_); rintro e w16 ⟨rfl, hb⟩; have n0_ := As.mk (blk_below (g := gb708) (o := .cells #[.slice A0_0 l0_0.length c0_0, .int .i64 a0_1, .int .i64 a0_2, .int .i64 a0_3, .int .i64 a0_4, .int .i64 a0_5, .int .i64 a0_6, .string a0_7, .string a0_8, .slice A0_9 l0_9.length c0_9, .int .u8 a0_10, .slice A0_11 l0_11.length c0_11] 52 (0, 0)) (bu BK708.out) hb); have n1_ := As.mk (blk_below (g := gb709) (o := .cells #[.int .i64 a0_3, .int .i64 a0_4, .int .i64 a0_5, .int .i64 a0_6, .string a0_7, .string a0_8, .slice A0_9 l0_9.length c0_9] 33 (0, 0)) (bu BK709.out) hb); have n2_ := As.mk (below_step (by repeat (first | (with_reducible first | exact HB.out | apply below_alloc | apply pw_below_drewN | apply below_drew1 | refine below_set ?_ GE708.out | refine below_set ?_ GE709.out) | exact HB.out)) hb); clear BK708; clear BK709; clear HB; have BK708 := n0_; have BK709 := n1_; have HB := n2_; clear n0_ n1_ n2_; (try clear hb)))
    go_ret
    exact ⟨by first | rfl | (simp [*] <;> rfl), by repeat (first | (with_reducible first | exact HB.out | apply below_alloc | apply pw_below_drewN | apply below_drew1 | refine below_set ?_ GE708.out | refine below_set ?_ GE709.out) | exact HB.out)⟩
   replace c14 := Bool.eq_false_iff.mpr c14
   subst c14
   have H1 : ((w_same.f kj1 l0_0 a0_1 a0_2 a0_3 a0_4 a0_5 a0_6 a0_7 a0_8 l0_9 a0_10 ((Int.tmod a0_1 2) == 0) l0_11).bind fun t711 => (if t711 = true then ((w_sane.f).bind fun t712 => (some t712)) else (some false))) = some r := by rw [if_neg (show ¬ (false = true) by decide)] at H; exact H
   clear H
   have H := H1
   clear H1
   replace H := Option.bind_eq_some_iff.mp H
   obtain ⟨t711, A170, H⟩ := H
   try dsimp only at H
   have A17 := As.mk A170
   clear A170
   by_cases c18 : t711 = true
   rotate_left
   ·replace c18 := Bool.eq_false_iff.mpr c18
    subst c18
    have H1 : (some false) = some r := by rw [if_neg (show ¬ (false = true) by decide)] at H; exact H
    clear H
    have H := H1
    clear H1
    obtain rfl := Option.some.inj H
    have hnb24 := NB709_708.out
    have hnc24 := NB708_709.out
    have z25 := box7 BK709.out
    go_wp2_with (first | (go_at_call 25; (with_reducible refine (w_same.calls kj1 _ _ l0_0 a0_1 a0_2 a0_3 a0_4 a0_5 a0_6 a0_7 a0_8 _ _ l0_9 a0_10 ((Int.tmod a0_1 2) == 0) _ _ l0_11 false _ ?side1 ?side2 ?side3 ?side4 ?side5 ?side6 A17.out).mono ?_); (case side1 => exact Kd.C_below HR0_0.out (bl HB.out)); (case side2 => exact HC0_0.out); (case side3 => exact Kd.C_below HR0_9.out (bl HB.out)); (case side4 => exact HC0_9.out); (case side5 => exact Kd.C_below HR0_11.out (bl HB.out)); (case side6 => exact HC0_11.out); rintro e w26 ⟨rfl, hb⟩; have n0_ := As.mk (blk_below (g := gb708) (o := .cells #[.slice A0_0 l0_0.length c0_0, .int .i64 a0_1, .int .i64 a0_2, .int .i64 a0_3, .int .i64 a0_4, .int .i64 a0_5, .int .i64 a0_6, .string a0_7, .string a0_8, .slice A0_9 l0_9.length c0_9, .int .u8 a0_10, .slice A0_11 l0_11.length c0_11] 52 (0, 0)) (bu BK708.out) hb); have n1_ := As.mk (blk_below (g := gb709) (o := .cells #[.int .i64 a0_3, .int .i64 a0_4, .int .i64 a0_5, .int .i64 a0_6, .string a0_7, .string a0_8, .slice A0_9 l0_9.length c0_9] 33 (0, 0)) (bu BK709.out) hb); have n2_ := As.mk (below_step (by repeat (first | (with_reducible first | exact HB.out | apply below_alloc | apply pw_below_drewN | apply below_drew1 | refine below_set ?_ GE708.out | refine below_set ?_ GE709.out) | exact HB.out)) hb); clear BK708; clear BK709; clear HB; have BK708 := n0_; have BK709 := n1_; have HB := n2_; clear n0_ n1_ n2_; (try clear hb)))
    go_ret
    exact ⟨by first | rfl | (simp [*] <;> rfl), by repeat (first | (with_reducible first | exact HB.out | apply below_alloc | apply pw_below_drewN | apply below_drew1 | refine below_set ?_ GE708.out | refine below_set ?_ GE709.out) | exact HB.out)⟩
   subst c18
   have H1 : ((w_sane.f).bind fun t712 => (some t712)) = some r := by rw [if_pos rfl] at H; exact H
   clear H
   have H := H1
   clear H1
   replace H := Option.bind_eq_some_iff.mp H
   obtain ⟨t712, A190, H⟩ := H
   try dsimp only at H
   have A19 := As.mk A190
   clear A190
   obtain rfl := Option.some.inj H
   have hnb20 := NB709_708.out
   have hnc20 := NB708_709.out
   have z21 := box7 BK709.out
   go_wp2_with (first | (go_at_call 25; (with_reducible refine (w_same.calls kj1 _ _ l0_0 a0_1 a0_2 a0_3 a0_4 a0_5 a0_6 a0_7 a0_8 _ _ l0_9 a0_10 ((Int.tmod a0_1 2) == 0) _ _ l0_11 true _ ?side1 ?side2 ?side3 ?side4 ?side5 ?side6 A17.out).mono ?_); (case side1 => exact Kd.C_below HR0_0.out (bl HB.out)); (case side2 => exact HC0_0.out); (case side3 => exact Kd.C_below HR0_9.out (bl HB.out)); (case side4 => exact HC0_9.out); (case side5 => exact Kd.C_below HR0_11.out (bl HB.out)); (case side6 => exact HC0_11.out); rintro e w22 ⟨rfl, hb⟩; have n0_ := As.mk (blk_below (g := gb708) (o := .cells #[.slice A0_0 l0_0.length c0_0, .int .i64 a0_1, .int .i64 a0_2, .int .i64 a0_3, .int .i64 a0_4, .int .i64 a0_5, .int .i64 a0_6, .string a0_7, .string a0_8, .slice A0_9 l0_9.length c0_9, .int .u8 a0_10, .slice A0_11 l0_11.length c0_11] 52 (0, 0)) (bu BK708.out) hb); have n1_ := As.mk (blk_below (g := gb709) (o := .cells #[.int .i64 a0_3, .int .i64 a0_4, .int .i64 a0_5, .int .i64 a0_6, .string a0_7, .string a0_8, .slice A0_9 l0_9.length c0_9] 33 (0, 0)) (bu BK709.out) hb); have n2_ := As.mk (below_step (by repeat (first | (with_reducible first | exact HB.out | apply below_alloc | apply pw_below_drewN | apply below_drew1 | refine below_set ?_ GE708.out | refine below_set ?_ GE709.out) | exact HB.out)) hb); clear BK708; clear BK709; clear HB; have BK708 := n0_; have BK709 := n1_; have HB := n2_; clear n0_ n1_ n2_; (try clear hb)) | (go_at_call 15; (with_reducible refine (w_sane.calls  t712 _ A19.out).mono ?_); rintro e w23 ⟨rfl, hb⟩; have n0_ := As.mk (blk_below (g := gb708) (o := .cells #[.slice A0_0 l0_0.length c0_0, .int .i64 a0_1, .int .i64 a0_2, .int .i64 a0_3, .int .i64 a0_4, .int .i64 a0_5, .int .i64 a0_6, .string a0_7, .string a0_8, .slice A0_9 l0_9.length c0_9, .int .u8 a0_10, .slice A0_11 l0_11.length c0_11] 52 (0, 0)) (bu BK708.out) hb); have n1_ := As.mk (blk_below (g := gb709) (o := .cells #[.int .i64 a0_3, .int .i64 a0_4, .int .i64 a0_5, .int .i64 a0_6, .string a0_7, .string a0_8, .slice A0_9 l0_9.length c0_9] 33 (0, 0)) (bu BK709.out) hb); have n2_ := As.mk (below_step (by repeat (first | (with_reducible first | exact HB.out | apply below_alloc | apply pw_below_drewN | apply below_drew1 | refine below_set ?_ GE708.out | refine below_set ?_ GE709.out) | exact HB.out)) hb); clear BK708; clear BK709; clear HB; have BK708 := n0_; have BK709 := n1_; have HB := n2_; clear n0_ n1_ n2_; (try clear hb)))
   go_ret
   exact ⟨by first | rfl | (simp [*] <;> rfl), by repeat (first | (with_reducible first | exact HB.out | apply below_alloc | apply pw_below_drewN | apply below_drew1 | refine below_set ?_ GE708.out | refine below_set ?_ GE709.out) | exact HB.out)⟩
end Go.Proofs.Yteadghhmoggjnaa.Q
end
section
namespace Go.Proofs.YteadghhmoggjnaaB
open Go.RowKit
open Go.Proofs.Yteadghhmoggjnaa.Q
open Go.Proofs.YteadghhmoggjnaaW.PrintWords Go.Proofs.YteadghhmoggjnaaW.PrintLast Go.Proofs.YteadghhmoggjnaaW.PrintMore
set_option maxHeartbeats 1600000
theorem same_fit {l : List S33} (hl : l.length ≤ 1000000) (h6 : ∀ x ∈ l, x.f6.length ≤ 17592186044415) : Ev (fun k => s_Same.f k l l) true := same_ev l (by omega) (fun x hx => by have := h6 x hx; omega)
theorem takeAns_parts (l : List S33) (len : Int) (h : S33) (hl : l.length ≤ 5000) (h6 : ∀ x ∈ l, x.f6.length ≤ 17592186044415) (hh : h.f6.length ≤ 17592186044415) :
  ((takeAns l len h).1.length ≤ 1000000 ∧ ∀ x ∈ (takeAns l len h).1, x.f6.length ≤ 17592186044415) ∧ ((takeAns l len h).2.1.length ≤ 1000000 ∧ ∀ x ∈ (takeAns l len h).2.1, x.f6.length ≤ 17592186044415) := by
 obtain ⟨p, p3, p4⟩ := parts_fit (len := len) (h := h) (by omega : l.length ≤ 900000) h6 hh
 unfold takeAns
 split
 ·exact ⟨p, by show (takeL l len h).2.1.length ≤ _; omega, fun x hx => h6 x (p4 x hx)⟩
 ·exact ⟨⟨by simp, fun x hx => by cases hx⟩, by simp, fun x hx => by cases hx⟩
theorem same_f (l : List S33) (len rest : Int) (h : S33) (mode : Int) (odd : Bool) (pl : List Int) (hl : l.length ≤ 400) (hf : ∀ x ∈ l, Fit x) (hh : Fit h) (hp : pl.length ≤ 400) :
  Ev (fun k => w_same.f k l len rest h.f0 h.f1 h.f2 h.f3 h.f4 h.f5 h.f6 mode odd pl) true := by
 have h6 : ∀ x ∈ l, x.f6.length ≤ 17592186044415 := fun x hx => (hf x hx).1
 obtain ⟨⟨t1, t2⟩, t3, t4⟩ := takeAns_parts l len h (by omega) h6 hh.1
 obtain ⟨R, r1, r2, r3, r4⟩ := break_f l len rest h (by omega) hf hh 17592186044415 (by omega) h6 hh.1
 have hadj : fill_Adjust.f l len mode odd = some (adjL l len mode odd) := rfl
 obtain ⟨a1, a2⟩ := adj_parts l len mode odd 17592186044415 h6
 obtain ⟨w1, w2⟩ := words_parts (l.length + 1) (restL l)
 have hrl := restL_le l
 have hpt := ptsTo_parts l (putL l.length pl (-1)) l.length (Nat.le_refl _)
 have hne : ∀ b : Bool, ¬ ((b != b) = true) := fun b => by cases b <;> decide
 refine ev_known (fill_Take_f l len h (by omega) h6 hh.1) (Ev.bind (ref_Take_f l len h (by omega) hf hh) (ev_pos rfl (ev_neg (hne _) ?_)))
 refine Ev.bind (same_fit t1 t2) (ev_pos rfl (Ev.bind (same_fit t3 t4) ?_))
 refine Ev.step (fun k => by rw [w_same.j0]) (ev_neg (by decide) ?_)
 refine Ev.bind r1 (Ev.bind r2 (ev_pos rfl (Ev.bind (rows_self R.1 17592186044415 (by omega) (by omega) (fun y hy => ⟨by have := (r4 y hy).1; omega, (r4 y hy).2⟩)) ?_)))
 refine Ev.step (fun k => by rw [w_same.j1]) (ev_neg (by decide) ?_)
 refine ev_known hadj (Ev.bind (ref_Adjust_f l len mode odd (by omega) hf) (ev_pos rfl (ev_pos rfl (Ev.bind (same_fit (by omega) a2) ?_))))
 refine Ev.step (fun k => by rw [w_same.j2]) (ev_neg (by decide) ?_)
 refine ev_known (gaps_fill l (by omega) h6) (Ev.bind (gaps_ref l (by omega)) (ev_pos rfl ?_))
 refine ev_known (fill_Words_f l (by omega) h6) (Ev.bind (ref_Words_f l (by omega) h6) (Ev.bind (rows_self (wordsL l) 17592186044415 (by omega) (by show (wordsGo (l.length + 1) (restL l)).length ≤ _; omega) (fun y hy => ?_)) (ev_pos rfl ?_)))
 ·obtain ⟨b1, b2⟩ := w2 y hy
  exact ⟨by omega, fun x hx => h6 x (restL_mem (b2 x hx))⟩
 ·refine Ev.bind (fill_Points_f l pl (by omega) h6 (by omega)) (Ev.bind (ref_Points_f l pl (by omega) h6 (by omega)) (Ev.bind (same_fit (by omega) (fun x hx => ?_)) (ev_now rfl)))
  rcases hpt.2 x hx with h1 | rfl
  ·exact h6 x h1
  ·exact Nat.zero_le _
theorem FillRaw_pure (l : List S33) (len rest : Int) (h : S33) (mode : Int) (pl : List Int) (hl : l.length ≤ 400 → ∀ x ∈ l, Fit x) (hh : Fit h) :
  Ev (fun k => w_FillRaw.f k l len rest h.f0 h.f1 h.f2 h.f3 h.f4 h.f5 h.f6 mode pl) true := by
 have hsane : w_sane.f = some true := rfl
 have hj : Ev (fun k => w_FillRaw.j0 k l len rest mode pl true h.f0 h.f1 h.f2 h.f3 h.f4 h.f5 h.f6) true := Ev.step (fun k => by rw [w_FillRaw.j0]) (ev_pos rfl (ev_known hsane (ev_now rfl)))
 by_cases h1 : (l.length : Int) > 400
 ·exact ev_pos h1 hj
 ·refine ev_neg h1 ?_
  by_cases h2 : (pl.length : Int) > 400
  ·rw [decide_eq_true h2]
   exact hj
  ·rw [decide_eq_false h2]
   refine Ev.step (fun k => by rw [w_FillRaw.j0]) (ev_neg (by decide) ?_)
   exact Ev.bind (same_f l len rest h mode _ pl (by omega) (hl (by omega)) hh (by omega)) (ev_pos rfl (ev_known hsane (ev_now rfl)))
end Go.Proofs.YteadghhmoggjnaaB
end
section
namespace Go.Proofs.YteadghhmoggjnaaB
open Go.ChangeShapes Go.WideShapes Go.ChangeAt Go.RowKit
section
variable {H : Type} {enc : TypeId × Value → H} {P : Program}
theorem trodAll_stays (hl : laidOutB P = true) {W W' : World} (hb : Below W.heap.size W W') : ∀ {ts : List TypeId} {vs : List Value} {ds : List (DataW H)} {ps : List MemPlace}, (∀ t ∈ ts, P.readableRec t = true ∧ t < P.types.size) →
  (∀ x ∈ ps, x.block < W.heap.size) → DataW.TrodAll enc P W 0 (fun _ => true) true ts vs ds ps → DataW.TrodAll enc P W' 0 (fun b => decide (b < W.heap.size)) true ts vs ds ps
 | [], [], [], ps, _, _, h => h
 | [], [], _ :: _, _, _, _, h => h.elim
 | [], _ :: _, _, _, _, _, h => h.elim
 | _ :: _, [], _, _, _, _, h => h.elim
 | _ :: _, _ :: _, [], _, _, _, h => h.elim
 | t :: ts, v :: vs, d :: ds, ps, hr, hp, h => by
  obtain ⟨p, q, h1, h2, rfl⟩ := h
  refine ⟨p, q, Below.trod hl (hr t (by simp)).1 (hr t (by simp)).2 h1 hb (fun x hx => hp x (by simp [hx])), trodAll_stays hl hb (fun t ht => hr t (by simp [ht])) (fun x hx => hp x (by simp [hx])) h2, rfl⟩
theorem law_post {f : Func} {s : ChangeSpec} {W W' : World} {args : Array Value} {ds : List (DataW H)} {before : List MemPlace} {b : TypeId} (hl : laidOutB P = true) (hv : s.vars = []) (hr : f.resultTypes.toList = [b]) (hb1 : f.resultTypes.size = 1) (hb : P.underlying b = some .bool)
  (hres : (s.fn H (ds ++ [])).results = [.lit (.bool true)]) (hargs : (s.fn H (ds ++ [])).args = ds) (hvars : (s.fn H (ds ++ [])).vars = []) (htypes : ∀ t ∈ f.params.toList, P.readableRec t = true ∧ t < P.types.size)
  (hW : DataW.Whole enc P f.params.toList s.vars false W args.toList ds [] before) (hbel : Below W.heap.size W W') : s.post enc P f false true false false W args (.bool true) W' := by
 have hlt := hW.lt
 have hW' := hW
 obtain ⟨p, q, h1, h2, rfl, h3, h4⟩ := hW'
 rw [hv] at h2
 have hq : q = [] := h2
 subst hq
 refine ⟨ds, [], p ++ [], [], p, [], hW, ?_, ?_, ?_, World.keptBut_mono (fun x hx => ⟨hx, .inr (.inl (by simpa using hx))⟩) (hbel.frame (· ∈ p ++ [])), fun h => by cases h⟩
 ·rw [hr, hb1, hres]
  exact trodAll_mk1 (shut_bool hb true)
 ·rw [hargs]
  exact trodAll_stays hl hbel htypes (fun x hx => hlt x (by simp [hx])) h1
 ·rw [hv, hvars]; rfl
end
end Go.Proofs.YteadghhmoggjnaaB
end
