import Derived.Test.YteadghhmoggjnaaFM24
import Derived.Test.YteadghhmoggjnaaFM25
import Derived.Test.YteadghhmoggjnaaFM26
import Derived.Test.YteadghhmoggjnaaFM27
set_option linter.unusedVariables false
set_option linter.unusedSimpArgs false
section
namespace Go.Proofs.Yteadghhmoggjnaa.Q
open Go.RowKit YteadghhmoggjnaaW.PrintWords YteadghhmoggjnaaW.PrintLast YteadghhmoggjnaaW.PrintMore
attribute [local go_sem] max2_int max_two
set_option maxHeartbeats 8000000
set_option maxRecDepth 100000
mutual
def w_same.j0 : Nat → List (S33) → Int → Int → Int → Bool → List Int → Bool → Int → Int → Int → Int → ByteArray → ByteArray → List Int → Option (Bool)
 | 0, _, _, _, _, _, _, _, _, _, _, _, _, _, _ => none
 | k + 1, x0, x1, x2, x4, x5, x6, x66, hh0, hh1, hh2, hh3, hh4, hh5, hh6 => if x66 = true then (some false) else ((fill_Break.f k x0 x1 x2 hh0 hh1 hh2 hh3 hh4 hh5 hh6).bind fun bt672 => ((r_Break.f k x0 x1 x2 hh0 hh1 hh2 hh3 hh4 hh5 hh6).bind fun bt676 => (if bt672.2 = bt676.2 then ((w_rows.f k bt672.1 bt676.1).bind fun t680 => (w_same.j1 k x0 x1 x4 x5 x6 (!t680))) else (w_same.j1 k x0 x1 x4 x5 x6 true))))
def w_same.j1 : Nat → List (S33) → Int → Int → Bool → List Int → Bool → Option (Bool)
 | 0, _, _, _, _, _, _ => none
 | k + 1, x0, x1, x4, x5, x6, x91 => if x91 = true then (some false) else ((fill_Adjust.f x0 x1 x4 x5).bind fun bt681 => ((r_Adjust.f k x0 x1 x4 x5).bind fun bt686 => (if bt681.2.2 = bt686.2.2 then (if bt681.2.1 = bt686.2.1 then ((s_Same.f k bt681.1 bt686.1).bind fun t691 => (w_same.j2 k x0 x6 (!t691))) else (w_same.j2 k x0 x6 true)) else (w_same.j2 k x0 x6 true))))
def w_same.j2 : Nat → List (S33) → List Int → Bool → Option (Bool)
 | 0, _, _, _ => none
 | k + 1, x0, x6, x123 => if x123 = true then (some false) else ((fill_Gaps.f x0).bind fun t692 => ((r_Gaps.f k x0).bind fun t693 => (if t692 = t693 then ((fill_Words.f x0).bind fun t694 => ((r_Words.f k x0).bind fun t697 => ((w_rows.f k t694 t697).bind fun t700 => (if t700 = true then ((fill_Points.f k x0 x6).bind fun t701 => ((r_Points.f k x0 x6).bind fun t704 => ((s_Same.f k t701 t704).bind fun t707 => (some t707)))) else (some false))))) else (some false))))
end
def w_same.f (k : Nat) (l0 : List (S33)) (a1 : Int) (a2 : Int) (a3_0 : Int) (a3_1 : Int) (a3_2 : Int) (a3_3 : Int) (a3_4 : ByteArray) (a3_5 : ByteArray) (l3_6 : List Int) (a4 : Int) (a5 : Bool) (l6 : List Int) : Option (Bool) := (fill_Take.f l0 a1 a3_0 a3_1 a3_2 a3_3 a3_4 a3_5 l3_6).bind fun bt654 => ((r_Take.f k l0 a1 a3_0 a3_1 a3_2 a3_3 a3_4 a3_5 l3_6).bind fun bt662 => (if bt654.2.2.2 = bt662.2.2.2 then (if (bt654.2.2.1 != bt662.2.2.1) = true then (w_same.j0 k l0 a1 a2 a4 a5 l6 true a3_0 a3_1 a3_2 a3_3 a3_4 a3_5 l3_6) else ((s_Same.f k bt654.1 bt662.1).bind fun t670 => (if t670 = true then ((s_Same.f k bt654.2.1 bt662.2.1).bind fun t671 => (w_same.j0 k l0 a1 a2 a4 a5 l6 (!t671) a3_0 a3_1 a3_2 a3_3 a3_4 a3_5 l3_6)) else (w_same.j0 k l0 a1 a2 a4 a5 l6 true a3_0 a3_1 a3_2 a3_3 a3_4 a3_5 l3_6)))) else (w_same.j0 k l0 a1 a2 a4 a5 l6 true a3_0 a3_1 a3_2 a3_3 a3_4 a3_5 l3_6)))
theorem w_same.calls (k : Nat) (A0 : Option Addr) (c0 : Nat) (l0 : List (S33)) (a1 : Int) (a2 : Int) (a3_0 : Int) (a3_1 : Int) (a3_2 : Int) (a3_3 : Int) (a3_4 : ByteArray) (a3_5 : ByteArray) (A3_6 : Option Addr) (c3_6 : Nat) (l3_6 : List Int) (a4 : Int) (a5 : Bool) (A6 : Option Addr) (c6 : Nat) (l6 : List Int) (r : Bool) (w : World) (hr0 : Kd.C k33 w A0 l0.length l0) (hc0 : l0.length ≤ c0) (hr3_6 : Kd.C (Kd.int .i64) w A3_6 l3_6.length l3_6) (hc3_6 : l3_6.length ≤ c3_6) (hr6 : Kd.C (Kd.int .i64) w A6 l6.length l6) (hc6 : l6.length ≤ c6) (h : w_same.f k l0 a1 a2 a3_0 a3_1 a3_2 a3_3 a3_4 a3_5 l3_6 a4 a5 l6 = some r) :
  Calls Try.prog 25 #[.slice A0 l0.length c0, .int .i64 a1, .int .i64 a2, .agg #[.int .i64 a3_0, .int .i64 a3_1, .int .i64 a3_2, .int .i64 a3_3, .string a3_4, .string a3_5, .slice A3_6 l3_6.length c3_6], .int .u8 a4, .bool a5, .slice A6 l6.length c6] w fun e w' => e = .returned (.bool r) ∧ Below w.heap.size w w' := by
 have hu33 := Try.underlying33
 have HR0 := o_ hr0
 have HC0 := o_ hc0
 clear hr0 hc0
 have HR3_6 := o_ hr3_6
 have HC3_6 := o_ hc3_6
 clear hr3_6 hc3_6
 have HR6 := o_ hr6
 have HC6 := o_ hc6
 clear hr6 hc6
 have HB := o_ (Below.refl w.heap.size w)
 have H : ((fill_Take.f l0 a1 a3_0 a3_1 a3_2 a3_3 a3_4 a3_5 l3_6).bind fun bt654 => ((r_Take.f k l0 a1 a3_0 a3_1 a3_2 a3_3 a3_4 a3_5 l3_6).bind fun bt662 => (if bt654.2.2.2 = bt662.2.2.2 then (if (bt654.2.2.1 != bt662.2.2.1) = true then (w_same.j0 k l0 a1 a2 a4 a5 l6 true a3_0 a3_1 a3_2 a3_3 a3_4 a3_5 l3_6) else ((s_Same.f k bt654.1 bt662.1).bind fun t670 => (if t670 = true then ((s_Same.f k bt654.2.1 bt662.2.1).bind fun t671 => (w_same.j0 k l0 a1 a2 a4 a5 l6 (!t671) a3_0 a3_1 a3_2 a3_3 a3_4 a3_5 l3_6)) else (w_same.j0 k l0 a1 a2 a4 a5 l6 true a3_0 a3_1 a3_2 a3_3 a3_4 a3_5 l3_6)))) else (w_same.j0 k l0 a1 a2 a4 a5 l6 true a3_0 a3_1 a3_2 a3_3 a3_4 a3_5 l3_6)))) = some r := h
 clear h
 obtain ⟨⟨t654, t657, t660, t661⟩, A80, H⟩ := qb H
 try dsimp only at H
 have A8 := o_ A80
 clear A80
 obtain ⟨⟨t662, t665, t668, t669⟩, A90, H⟩ := qb H
 try dsimp only at H
 have A9 := o_ A90
 clear A90
 have HC10 := o_ H
 clear H
 go_enter Try.func25, Try.ntmps25
 go_upto_region 3 with (first | ((with_reducible refine gate_dst (N := 10) rfl ?_); refine box_event ?hg (N := 10) ?hd (cs := #[.int .i64 a3_0, .int .i64 a3_1, .int .i64 a3_2, .int .i64 a3_3, .string a3_4, .string a3_5, .slice A3_6 l3_6.length c3_6]) (t := 33) ?hr ?_; (case hd => rfl); (case hg => rfl); (case hr => first | (go_simp; done) | (go_simp; rfl)); intro gb653 hg w11 hbox hb; have n0_ := o_ (below_step (bl HB) hb); have n1_ := o_ (hbox); have n2_ := o_ ((by rw [hg]; exact (below_size (bl HB)) : w.heap.size ≤ gb653)); have n3_ := o_ ((by rw [hg]; exact (below_size (bl HB)) : w.heap.size ≤ gb653)); clear HB; have HB := n0_; have BK653 := n1_; have GW653 := n2_; have GE653 := n3_; clear n0_ n1_ n2_ n3_; clear hb hbox hg; have z12 := box7 BK653) | (go_at_call 16; (with_reducible refine (fill_Take.calls _ _ l0 a1 a3_0 a3_1 a3_2 a3_3 a3_4 a3_5 _ _ l3_6 t654 t657 t660 t661 _ ?side1 ?side2 ?side3 ?side4 A8.out).mono ?_); (case side1 => exact Kd.C_below HR0.out (bl HB)); (case side2 => exact HC0.out); (case side3 => exact Kd.C_below HR3_6.out (bl HB)); (case side4 => exact HC3_6.out); rintro e w13 ⟨v655, v658, rfl, ho0, ho1, hb⟩; have n0_ := o_ (Kd.N_lower (Kd.N_mono (ok' := fun k_ => some k_ ≠ (v658 : Value).ownBlock ∧ k_ ≠ gb653) (Kd.S_N (Kd.S_bound ho0)) (fun k_ hk_ => ⟨hk_.1, (Kd.freshB (g := gb653) (o := .cells #[.int .i64 a3_0, .int .i64 a3_1, .int .i64 a3_2, .int .i64 a3_3, .string a3_4, .string a3_5, .slice A3_6 l3_6.length c3_6] 33 (0, 0)) (bu BK653) k_ hk_.2.1)⟩)) (below_size (bl HB))); have n1_ := o_ (Kd.N_lower (Kd.N_mono (ok' := fun k_ => some k_ ≠ (v655 : Value).ownBlock ∧ k_ ≠ gb653) (Kd.S_N (Kd.S_bound ho1)) (fun k_ hk_ => ⟨hk_.1, (Kd.freshB (g := gb653) (o := .cells #[.int .i64 a3_0, .int .i64 a3_1, .int .i64 a3_2, .int .i64 a3_3, .string a3_4, .string a3_5, .slice A3_6 l3_6.length c3_6] 33 (0, 0)) (bu BK653) k_ hk_.2.1)⟩)) (below_size (bl HB))); have n2_ := o_ (blk_below (g := gb653) (o := .cells #[.int .i64 a3_0, .int .i64 a3_1, .int .i64 a3_2, .int .i64 a3_3, .string a3_4, .string a3_5, .slice A3_6 l3_6.length c3_6] 33 (0, 0)) (bu BK653) hb); have n3_ := o_ (below_step (bl HB) hb); clear BK653; clear HB; have HO656 := n0_; have HO659 := n1_; have BK653 := n2_; have HB := n3_; clear n0_ n1_ n2_ n3_; (try clear hb); (try clear ho0); (try clear ho1); have z14 := box7 BK653) | (go_at_call 44; (with_reducible refine (r_Take.calls k _ _ l0 a1 a3_0 a3_1 a3_2 a3_3 a3_4 a3_5 _ _ l3_6 t662 t665 t668 t669 _ ?side1 ?side2 ?side3 ?side4 A9.out).mono ?_); (case side1 => exact Kd.C_below HR0.out (bl HB)); (case side2 => exact HC0.out); (case side3 => exact Kd.C_below HR3_6.out (bl HB)); (case side4 => exact HC3_6.out); rintro e w15 ⟨v663, v666, rfl, ho0, ho1, hb⟩; have n0_ := o_ (Kd.N_mono (Kd.N_told (Kd.N_told (Kd.N_old (Nu HO656) hb) (by first | exact Kd.N_base ho0 | exact Kd.S_base ho0 | exact Kd.R_base ho0)) (by first | exact Kd.N_base ho1 | exact Kd.S_base ho1 | exact Kd.R_base ho1)) (fun _ h_ => h_.1)); have n1_ := o_ (Kd.N_mono (Kd.N_told (Kd.N_told (Kd.N_old (Nu HO659) hb) (by first | exact Kd.N_base ho0 | exact Kd.S_base ho0 | exact Kd.R_base ho0)) (by first | exact Kd.N_base ho1 | exact Kd.S_base ho1 | exact Kd.R_base ho1)) (fun _ h_ => h_.1)); have n2_ := o_ (Kd.N_lower (Kd.N_mono (ok' := fun k_ => some k_ ≠ (v666 : Value).ownBlock ∧ some k_ ≠ (v655 : Value).ownBlock ∧ some k_ ≠ (v658 : Value).ownBlock ∧ k_ ≠ gb653) (Kd.S_N (Kd.S_bound ho0)) (fun k_ hk_ => ⟨hk_.1, (Kd.fresh' (Kd.N_lt (Nu HO656)) k_ hk_.2.1), (Kd.fresh' (Kd.N_lt (Nu HO659)) k_ hk_.2.1), (Kd.freshB (g := gb653) (o := .cells #[.int .i64 a3_0, .int .i64 a3_1, .int .i64 a3_2, .int .i64 a3_3, .string a3_4, .string a3_5, .slice A3_6 l3_6.length c3_6] 33 (0, 0)) (bu BK653) k_ hk_.2.1)⟩)) (below_size (bl HB))); have n3_ := o_ (Kd.N_lower (Kd.N_mono (ok' := fun k_ => some k_ ≠ (v663 : Value).ownBlock ∧ some k_ ≠ (v655 : Value).ownBlock ∧ some k_ ≠ (v658 : Value).ownBlock ∧ k_ ≠ gb653) (Kd.S_N (Kd.S_bound ho1)) (fun k_ hk_ => ⟨hk_.1, (Kd.fresh' (Kd.N_lt (Nu HO656)) k_ hk_.2.1), (Kd.fresh' (Kd.N_lt (Nu HO659)) k_ hk_.2.1), (Kd.freshB (g := gb653) (o := .cells #[.int .i64 a3_0, .int .i64 a3_1, .int .i64 a3_2, .int .i64 a3_3, .string a3_4, .string a3_5, .slice A3_6 l3_6.length c3_6] 33 (0, 0)) (bu BK653) k_ hk_.2.1)⟩)) (below_size (bl HB))); have n4_ := o_ (blk_below (g := gb653) (o := .cells #[.int .i64 a3_0, .int .i64 a3_1, .int .i64 a3_2, .int .i64 a3_3, .string a3_4, .string a3_5, .slice A3_6 l3_6.length c3_6] 33 (0, 0)) (bu BK653) hb); have n5_ := o_ (below_step (bl HB) hb); clear HO656; clear HO659; clear BK653; clear HB; have HO656 := n0_; have HO659 := n1_; have HO664 := n2_; have HO667 := n3_; have BK653 := n4_; have HB := n5_; clear n0_ n1_ n2_ n3_ n4_ n5_; (try clear hb); (try clear ho0); (try clear ho1)))
 (try simp only [Act.put, List.setIfInBounds_toArray, List.set_cons_zero, List.set_cons_succ])
 go_cut [66] (fun v66 wc => ∃ (kq : Nat) (x66_9 : Bool), v66 = .bool x66_9 ∧ As (w_same.j0 kq l0 a1 a2 a4 a5 l6 x66_9 a3_0 a3_1 a3_2 a3_3 a3_4 a3_5 l3_6 = some r) ∧ As (kq ≤ k) ∧ As (wc.heap[gb653]? = some (.cells #[.int .i64 a3_0, .int .i64 a3_1, .int .i64 a3_2, .int .i64 a3_3, .string a3_4, .string a3_5, (.slice A3_6 l3_6.length c3_6)] 33 (0, 0))) ∧ As (Below w.heap.size w wc))
 case first =>
  have H := HC10.out
  clear HC10
  by_cases c16 : t661 = t669
  rotate_left
  ·rw [if_neg c16] at H
   have c16b0 : (t661 == t669) = false := beq_eq_false_iff_ne.mpr c16
   have c16b1 : (t661 != t669) = true := bne_iff_ne.mpr c16
   (first | rw [c16b0] | (simp only [i64_w, i32_w]; rw [c16b0]) | skip)
   have H' := o_ H
   clear H
   go_wp2
   go_meet
   case rel => exact ⟨_, (true), (by first | rfl | simp [*]), H', ⟨by first | omega | exact Nat.le_refl _⟩, ⟨bu BK653⟩, ⟨bl HB⟩⟩
  rw [if_pos c16] at H
  have c16b0 : (t661 == t669) = true := beq_iff_eq.mpr c16
  have c16b1 : (t661 != t669) = false := bne_eq_false_iff_eq.mpr c16
  clear c16
  (first | rw [c16b0] | (simp only [i64_w, i32_w]; rw [c16b0]) | skip)
  by_cases c17 : (t660 != t668) = true
  ·rw [if_pos c17] at H
   have c17b0 : (t660 != t668) = true := c17
   (try (have c17b1 : decide (t660 = t668) = false := by simpa using c17))
   (try (have c17b2 : (t660 == t668) = false := by simpa using c17))
   (try (have c17b3 : ¬ (t660 = t668) := by simpa using c17))
   clear c17
   have H' := o_ H
   clear H
   go_wp2
   go_meet
   case rel => exact ⟨_, (true), (by first | rfl | simp [*]), H', ⟨by first | omega | exact Nat.le_refl _⟩, ⟨bu BK653⟩, ⟨bl HB⟩⟩
  rw [if_neg c17] at H
  have c17b0 : (t660 != t668) = false := by simpa using c17
  (try (have c17b1 : decide (t660 = t668) = true := by simpa using c17))
  (try (have c17b2 : (t660 == t668) = true := by simpa using c17))
  clear c17
  obtain ⟨t670, A180, H⟩ := qb H
  try dsimp only at H
  have A18 := o_ A180
  clear A180
  by_cases c19 : t670 = true
  rotate_left
  ·replace c19 := Bool.eq_false_iff.mpr c19
   subst c19
   have H1 : (w_same.j0 k l0 a1 a2 a4 a5 l6 true a3_0 a3_1 a3_2 a3_3 a3_4 a3_5 l3_6) = some r := by rw [if_neg (show ¬ (false = true) by decide)] at H; exact H
   clear H
   have H := H1
   clear H1
   have H' := o_ H
   clear H
   obtain ⟨Ao27, co27, eo27⟩ := Kd.N_slice HO656.out
   subst eo27
   obtain ⟨Ao28, co28, eo28⟩ := Kd.N_slice HO664.out
   subst eo28
   go_wp2_with (first | (go_at_call 14; (with_reducible refine (s_Same.calls k _ _ t654 _ _ t662 false _ ?side1 ?side2 ?side3 ?side4 A18.out).mono ?_); (case side1 => exact Cu ⟨(Kd.N_reads' HO656.out).2.2⟩); (case side2 => exact (Kd.N_reads' HO656.out).2.1); (case side3 => exact Cu ⟨(Kd.N_reads' HO664.out).2.2⟩); (case side4 => exact (Kd.N_reads' HO664.out).2.1); rintro e w29 ⟨rfl, hb⟩; have n0_ := o_ (Kd.N_below (Nu HO656) hb); have n1_ := o_ (Kd.N_below (Nu HO659) hb); have n2_ := o_ (Kd.N_below (Nu HO664) hb); have n3_ := o_ (Kd.N_below (Nu HO667) hb); have n4_ := o_ (blk_below (g := gb653) (o := .cells #[.int .i64 a3_0, .int .i64 a3_1, .int .i64 a3_2, .int .i64 a3_3, .string a3_4, .string a3_5, .slice A3_6 l3_6.length c3_6] 33 (0, 0)) (bu BK653) hb); have n5_ := o_ (below_step (bl HB) hb); clear HO656; clear HO659; clear HO664; clear HO667; clear BK653; clear HB; have HO656 := n0_; have HO659 := n1_; have HO664 := n2_; have HO667 := n3_; have BK653 := n4_; have HB := n5_; clear n0_ n1_ n2_ n3_ n4_ n5_; (try clear hb)))
   go_meet
   case rel => exact ⟨_, (true), (by first | rfl | simp [*]), H', ⟨by first | omega | exact Nat.le_refl _⟩, ⟨bu BK653⟩, ⟨bl HB⟩⟩
  subst c19
  have H1 : ((s_Same.f k t657 t665).bind fun t671 => (w_same.j0 k l0 a1 a2 a4 a5 l6 (!t671) a3_0 a3_1 a3_2 a3_3 a3_4 a3_5 l3_6)) = some r := by rw [if_pos rfl] at H; exact H
  clear H
  have H := H1
  clear H1
  obtain ⟨t671, A200, H⟩ := qb H
  try dsimp only at H
  have A20 := o_ A200
  clear A200
  have H' := o_ H
  clear H
  obtain ⟨Ao21, co21, eo21⟩ := Kd.N_slice HO656.out
  subst eo21
  obtain ⟨Ao22, co22, eo22⟩ := Kd.N_slice HO664.out
  subst eo22
  go_wp2_with (first | (go_at_call 14; (with_reducible refine (s_Same.calls k _ _ t654 _ _ t662 true _ ?side1 ?side2 ?side3 ?side4 A18.out).mono ?_); (case side1 => exact Cu ⟨(Kd.N_reads' HO656.out).2.2⟩); (case side2 => exact (Kd.N_reads' HO656.out).2.1); (case side3 => exact Cu ⟨(Kd.N_reads' HO664.out).2.2⟩); (case side4 => exact (Kd.N_reads' HO664.out).2.1); rintro e w23 ⟨rfl, hb⟩; have n0_ := o_ (Kd.N_below (Nu HO656) hb); have n1_ := o_ (Kd.N_below (Nu HO659) hb); have n2_ := o_ (Kd.N_below (Nu HO664) hb); have n3_ := o_ (Kd.N_below (Nu HO667) hb); have n4_ := o_ (blk_below (g := gb653) (o := .cells #[.int .i64 a3_0, .int .i64 a3_1, .int .i64 a3_2, .int .i64 a3_3, .string a3_4, .string a3_5, .slice A3_6 l3_6.length c3_6] 33 (0, 0)) (bu BK653) hb); have n5_ := o_ (below_step (bl HB) hb); clear HO656; clear HO659; clear HO664; clear HO667; clear BK653; clear HB; have HO656 := n0_; have HO659 := n1_; have HO664 := n2_; have HO667 := n3_; have BK653 := n4_; have HB := n5_; clear n0_ n1_ n2_ n3_ n4_ n5_; (try clear hb); obtain ⟨Ao24, co24, eo24⟩ := Kd.N_slice HO659.out; subst eo24; obtain ⟨Ao25, co25, eo25⟩ := Kd.N_slice HO667.out; subst eo25) | (go_at_call 14; (with_reducible refine (s_Same.calls k _ _ t657 _ _ t665 t671 _ ?side1 ?side2 ?side3 ?side4 A20.out).mono ?_); (case side1 => exact Cu ⟨(Kd.N_reads' HO659.out).2.2⟩); (case side2 => exact (Kd.N_reads' HO659.out).2.1); (case side3 => exact Cu ⟨(Kd.N_reads' HO667.out).2.2⟩); (case side4 => exact (Kd.N_reads' HO667.out).2.1); rintro e w26 ⟨rfl, hb⟩; have n0_ := o_ (Kd.N_below (Nu HO656) hb); have n1_ := o_ (Kd.N_below (Nu HO659) hb); have n2_ := o_ (Kd.N_below (Nu HO664) hb); have n3_ := o_ (Kd.N_below (Nu HO667) hb); have n4_ := o_ (blk_below (g := gb653) (o := .cells #[.int .i64 a3_0, .int .i64 a3_1, .int .i64 a3_2, .int .i64 a3_3, .string a3_4, .string a3_5, .slice A3_6 l3_6.length c3_6] 33 (0, 0)) (bu BK653) hb); have n5_ := o_ (below_step (bl HB) hb); clear HO656; clear HO659; clear HO664; clear HO667; clear BK653; clear HB; have HO656 := n0_; have HO659 := n1_; have HO664 := n2_; have HO667 := n3_; have BK653 := n4_; have HB := n5_; clear n0_ n1_ n2_ n3_ n4_ n5_; (try clear hb)))
  go_meet
  case rel => exact ⟨_, (!t671), (by first | rfl | simp [*]), H', ⟨by first | omega | exact Nat.le_refl _⟩, ⟨bu BK653⟩, ⟨bl HB⟩⟩
 case rest =>
  clear HC10
  try clear z12
  try clear z14
  obtain ⟨kq, x66_9, rfl, HA, HJ9, BK653, HB⟩ := hcut
  cases kq with
  | zero => exact absurd HA.out (by simp [w_same.j0])
  | succ kj9 =>
   have H := HA.out
   clear HA
   simp only [w_same.j0] at H
   by_cases c30 : x66_9 = true
   ·subst c30
    have H1 : (some false) = some r := by rw [if_pos rfl] at H; exact H
    clear H
    have H := H1
    clear H1
    obtain rfl := Option.some.inj H
    go_wp2
    go_ret
    exact ⟨by first | rfl | (simp [*] <;> rfl), bl HB⟩
   replace c30 := Bool.eq_false_iff.mpr c30
   subst c30
   have H1 : ((fill_Break.f kj9 l0 a1 a2 a3_0 a3_1 a3_2 a3_3 a3_4 a3_5 l3_6).bind fun bt672 => ((r_Break.f kj9 l0 a1 a2 a3_0 a3_1 a3_2 a3_3 a3_4 a3_5 l3_6).bind fun bt676 => (if bt672.2 = bt676.2 then ((w_rows.f kj9 bt672.1 bt676.1).bind fun t680 => (w_same.j1 kj9 l0 a1 a4 a5 l6 (!t680))) else (w_same.j1 kj9 l0 a1 a4 a5 l6 true)))) = some r := by rw [if_neg (show ¬ (false = true) by decide)] at H; exact H
   clear H
   have H := H1
   clear H1
   obtain ⟨⟨t672, t675⟩, A310, H⟩ := qb H
   try dsimp only at H
   have A31 := o_ A310
   clear A310
   obtain ⟨⟨t676, t679⟩, A320, H⟩ := qb H
   try dsimp only at H
   have A32 := o_ A320
   clear A320
   have HC33 := o_ H
   clear H
   have z34 := box7 BK653
   go_upto_region 7 with (first | (go_at_call 19; (with_reducible refine (fill_Break.calls kj9 (fun k_ => k_ < w.heap.size) _ _ l0 a1 a2 a3_0 a3_1 a3_2 a3_3 a3_4 a3_5 (fun k_ => k_ < w.heap.size) _ _ l3_6 t672 t675 _ ?side1 ?side2 A31.out).mono ?_); (case side1 => exact Kd.V_mk HC0.out (Kd.F_below (Kd.C_F k33_heap HR0.out) (bl HB))); (case side2 => exact Kd.V_mk HC3_6.out (Kd.F_below (Kd.C_F (Kd.heap_int .i64) HR3_6.out) (bl HB))); rintro e w35 ⟨v673, rfl, ho0, hb⟩; have n0_ := o_ (Kd.N_lower (Kd.N_mono (ok' := fun k_ => k_ ≠ gb653) (Kd.R_N ho0) (fun k_ hk_ => Or.elim (Or.inr hk_ : (k_ < w.heap.size ∨ k_ < w.heap.size) ∨ _) (fun hs_ => Or.elim hs_ (fun hs_ => fun e_ => Nat.not_le.2 hs_ (by rw [e_]; exact GW653.out)) (fun hs_ => fun e_ => Nat.not_le.2 hs_ (by rw [e_]; exact GW653.out))) (fun hn_ => (Kd.freshB (g := gb653) (o := .cells #[.int .i64 a3_0, .int .i64 a3_1, .int .i64 a3_2, .int .i64 a3_3, .string a3_4, .string a3_5, .slice A3_6 l3_6.length c3_6] 33 (0, 0)) (bu BK653) k_ hn_)))) (below_size (bl HB))); have n1_ := o_ (blk_below (g := gb653) (o := .cells #[.int .i64 a3_0, .int .i64 a3_1, .int .i64 a3_2, .int .i64 a3_3, .string a3_4, .string a3_5, .slice A3_6 l3_6.length c3_6] 33 (0, 0)) (bu BK653) hb); have n2_ := o_ (below_step (bl HB) hb); clear BK653; clear HB; have HO674 := n0_; have BK653 := n1_; have HB := n2_; clear n0_ n1_ n2_; (try clear hb); (try clear ho0); have z36 := box7 BK653) | (go_at_call 45; (with_reducible refine (r_Break.calls kj9 (fun k_ => k_ < w.heap.size) _ _ l0 a1 a2 a3_0 a3_1 a3_2 a3_3 a3_4 a3_5 (fun k_ => k_ < w.heap.size) _ _ l3_6 t676 t679 _ ?side1 ?side2 A32.out).mono ?_); (case side1 => exact Kd.V_mk HC0.out (Kd.F_below (Kd.C_F k33_heap HR0.out) (bl HB))); (case side2 => exact Kd.V_mk HC3_6.out (Kd.F_below (Kd.C_F (Kd.heap_int .i64) HR3_6.out) (bl HB))); rintro e w37 ⟨v677, rfl, ho0, hb⟩; have n0_ := o_ (Kd.N_elder' (Nu HO674) (by first | exact Kd.N_base ho0 | exact Kd.S_base ho0 | exact Kd.R_base ho0) hb); have n1_ := o_ (Kd.N_lower (Kd.N_mono (ok' := fun k_ => some k_ ≠ (v673 : Value).ownBlock ∧ k_ ≠ gb653) (Kd.R_N ho0) (fun k_ hk_ => ⟨Or.elim (Or.inr hk_ : (k_ < w.heap.size ∨ k_ < w.heap.size) ∨ _) (fun hs_ => Or.elim hs_ (fun hs_ => fun e_ => Nat.not_le.2 hs_ (Kd.N_base HO674.out k_ e_.symm)) (fun hs_ => fun e_ => Nat.not_le.2 hs_ (Kd.N_base HO674.out k_ e_.symm))) (fun hn_ => (Kd.fresh' (Kd.N_lt (Nu HO674)) k_ hn_)), Or.elim (Or.inr hk_ : (k_ < w.heap.size ∨ k_ < w.heap.size) ∨ _) (fun hs_ => Or.elim hs_ (fun hs_ => fun e_ => Nat.not_le.2 hs_ (by rw [e_]; exact GW653.out)) (fun hs_ => fun e_ => Nat.not_le.2 hs_ (by rw [e_]; exact GW653.out))) (fun hn_ => (Kd.freshB (g := gb653) (o := .cells #[.int .i64 a3_0, .int .i64 a3_1, .int .i64 a3_2, .int .i64 a3_3, .string a3_4, .string a3_5, .slice A3_6 l3_6.length c3_6] 33 (0, 0)) (bu BK653) k_ hn_))⟩)) (below_size (bl HB))); have n2_ := o_ (blk_below (g := gb653) (o := .cells #[.int .i64 a3_0, .int .i64 a3_1, .int .i64 a3_2, .int .i64 a3_3, .string a3_4, .string a3_5, .slice A3_6 l3_6.length c3_6] 33 (0, 0)) (bu BK653) hb); have n3_ := o_ (below_step (bl HB) hb); clear HO674; clear BK653; clear HB; have HO674 := n0_; have HO678 := n1_; have BK653 := n2_; have HB := n3_; clear n0_ n1_ n2_ n3_; (try clear hb); (try clear ho0)))
   (try simp only [Act.put, List.setIfInBounds_toArray, List.set_cons_zero, List.set_cons_succ])
   go_cut [91] (fun v91 wc => ∃ (kq : Nat) (x91_32 : Bool), v91 = .bool x91_32 ∧ As (w_same.j1 kq l0 a1 a4 a5 l6 x91_32 = some r) ∧ As (kq ≤ kj9) ∧ As (wc.heap[gb653]? = some (.cells #[.int .i64 a3_0, .int .i64 a3_1, .int .i64 a3_2, .int .i64 a3_3, .string a3_4, .string a3_5, (.slice A3_6 l3_6.length c3_6)] 33 (0, 0))) ∧ As (Below w.heap.size w wc))
   case first =>
    have H := HC33.out
    clear HC33
    by_cases c38 : t675 = t679
    rotate_left
    ·rw [if_neg c38] at H
     have c38b0 : (t675 == t679) = false := beq_eq_false_iff_ne.mpr c38
     have c38b1 : (t675 != t679) = true := bne_iff_ne.mpr c38
     (first | rw [c38b0] | (simp only [i64_w, i32_w]; rw [c38b0]) | skip)
     have H' := o_ H
     clear H
     go_wp2
     go_meet
     case rel => exact ⟨_, (true), (by first | rfl | simp [*]), H', ⟨by have := HJ9.out; first | omega | exact Nat.le_refl _⟩, ⟨bu BK653⟩, ⟨bl HB⟩⟩
    rw [if_pos c38] at H
    have c38b0 : (t675 == t679) = true := beq_iff_eq.mpr c38
    have c38b1 : (t675 != t679) = false := bne_eq_false_iff_eq.mpr c38
    clear c38
    (first | rw [c38b0] | (simp only [i64_w, i32_w]; rw [c38b0]) | skip)
    obtain ⟨t680, A390, H⟩ := qb H
    try dsimp only at H
    have A39 := o_ A390
    clear A390
    have H' := o_ H
    clear H
    obtain ⟨Ao40, co40, eo40⟩ := Kd.N_slice HO674.out
    subst eo40
    obtain ⟨Ao41, co41, eo41⟩ := Kd.N_slice HO678.out
    subst eo41
    go_wp2_with (first | (go_at_call 46; (with_reducible refine (w_rows.calls kj9 _ _ t672 _ _ t676 t680 _ ?side1 ?side2 ?side3 ?side4 A39.out).mono ?_); (case side1 => exact Cu ⟨(Kd.N_reads' HO674.out).2.2⟩); (case side2 => exact (Kd.N_reads' HO674.out).2.1); (case side3 => exact Cu ⟨(Kd.N_reads' HO678.out).2.2⟩); (case side4 => exact (Kd.N_reads' HO678.out).2.1); rintro e w42 ⟨rfl, hb⟩; have n0_ := o_ (Kd.N_below (Nu HO674) hb); have n1_ := o_ (Kd.N_below (Nu HO678) hb); have n2_ := o_ (blk_below (g := gb653) (o := .cells #[.int .i64 a3_0, .int .i64 a3_1, .int .i64 a3_2, .int .i64 a3_3, .string a3_4, .string a3_5, .slice A3_6 l3_6.length c3_6] 33 (0, 0)) (bu BK653) hb); have n3_ := o_ (below_step (bl HB) hb); clear HO674; clear HO678; clear BK653; clear HB; have HO674 := n0_; have HO678 := n1_; have BK653 := n2_; have HB := n3_; clear n0_ n1_ n2_ n3_; (try clear hb)))
    go_meet
    case rel => exact ⟨_, (!t680), (by first | rfl | simp [*]), H', ⟨by have := HJ9.out; first | omega | exact Nat.le_refl _⟩, ⟨bu BK653⟩, ⟨bl HB⟩⟩
   case rest =>
    clear HC33
    try clear z12
    try clear z14
    try clear z34
    try clear z36
    obtain ⟨kq, x91_32, rfl, HA, HJ32, BK653, HB⟩ := hcut
    cases kq with
    | zero => exact absurd HA.out (by simp [w_same.j1])
    | succ kj32 =>
     have H := HA.out
     clear HA
     simp only [w_same.j1] at H
     by_cases c43 : x91_32 = true
     ·subst c43
      have H1 : (some false) = some r := by rw [if_pos rfl] at H; exact H
      clear H
      have H := H1
      clear H1
      obtain rfl := Option.some.inj H
      go_wp2
      go_ret
      exact ⟨by first | rfl | (simp [*] <;> rfl), bl HB⟩
     replace c43 := Bool.eq_false_iff.mpr c43
     subst c43
     have H1 : ((fill_Adjust.f l0 a1 a4 a5).bind fun bt681 => ((r_Adjust.f kj32 l0 a1 a4 a5).bind fun bt686 => (if bt681.2.2 = bt686.2.2 then (if bt681.2.1 = bt686.2.1 then ((s_Same.f kj32 bt681.1 bt686.1).bind fun t691 => (w_same.j2 kj32 l0 l6 (!t691))) else (w_same.j2 kj32 l0 l6 true)) else (w_same.j2 kj32 l0 l6 true)))) = some r := by rw [if_neg (show ¬ (false = true) by decide)] at H; exact H
     clear H
     have H := H1
     clear H1
     obtain ⟨⟨t681, t682, t683⟩, A440, H⟩ := qb H
     try dsimp only at H
     have A44 := o_ A440
     clear A440
     obtain ⟨⟨t686, t687, t688⟩, A450, H⟩ := qb H
     try dsimp only at H
     have A45 := o_ A450
     clear A450
     have HC46 := o_ H
     clear H
     go_upto_region 11 with (first | (go_at_call 11; (with_reducible refine (fill_Adjust.calls _ _ l0 a1 a4 a5 t681 t682 t683 _ ?side1 ?side2 A44.out).mono ?_); (case side1 => exact Kd.C_below HR0.out (bl HB)); (case side2 => exact HC0.out); rintro e w47 ⟨v684, rfl, ho0, hb⟩; have n0_ := o_ (Kd.N_lower (Kd.N_mono (ok' := fun k_ => k_ ≠ gb653) (Kd.S_N (Kd.S_bound ho0)) (fun k_ hk_ => (Kd.freshB (g := gb653) (o := .cells #[.int .i64 a3_0, .int .i64 a3_1, .int .i64 a3_2, .int .i64 a3_3, .string a3_4, .string a3_5, .slice A3_6 l3_6.length c3_6] 33 (0, 0)) (bu BK653) k_ hk_.2.1))) (below_size (bl HB))); have n1_ := o_ (blk_below (g := gb653) (o := .cells #[.int .i64 a3_0, .int .i64 a3_1, .int .i64 a3_2, .int .i64 a3_3, .string a3_4, .string a3_5, .slice A3_6 l3_6.length c3_6] 33 (0, 0)) (bu BK653) hb); have n2_ := o_ (below_step (bl HB) hb); clear BK653; clear HB; have HO685 := n0_; have BK653 := n1_; have HB := n2_; clear n0_ n1_ n2_; (try clear hb); (try clear ho0)) | (go_at_call 47; (with_reducible refine (r_Adjust.calls kj32 _ _ l0 a1 a4 a5 t686 t687 t688 _ ?side1 ?side2 A45.out).mono ?_); (case side1 => exact Kd.C_below HR0.out (bl HB)); (case side2 => exact HC0.out); rintro e w48 ⟨v689, rfl, ho0, hb⟩; have n0_ := o_ (Kd.N_elder' (Nu HO685) (by first | exact Kd.N_base ho0 | exact Kd.S_base ho0 | exact Kd.R_base ho0) hb); have n1_ := o_ (Kd.N_lower (Kd.N_mono (ok' := fun k_ => some k_ ≠ (v684 : Value).ownBlock ∧ k_ ≠ gb653) (Kd.S_N (Kd.S_bound ho0)) (fun k_ hk_ => ⟨(Kd.fresh' (Kd.N_lt (Nu HO685)) k_ hk_.2.1), (Kd.freshB (g := gb653) (o := .cells #[.int .i64 a3_0, .int .i64 a3_1, .int .i64 a3_2, .int .i64 a3_3, .string a3_4, .string a3_5, .slice A3_6 l3_6.length c3_6] 33 (0, 0)) (bu BK653) k_ hk_.2.1)⟩)) (below_size (bl HB))); have n2_ := o_ (blk_below (g := gb653) (o := .cells #[.int .i64 a3_0, .int .i64 a3_1, .int .i64 a3_2, .int .i64 a3_3, .string a3_4, .string a3_5, .slice A3_6 l3_6.length c3_6] 33 (0, 0)) (bu BK653) hb); have n3_ := o_ (below_step (bl HB) hb); clear HO685; clear BK653; clear HB; have HO685 := n0_; have HO690 := n1_; have BK653 := n2_; have HB := n3_; clear n0_ n1_ n2_ n3_; (try clear hb); (try clear ho0)))
     (try simp only [Act.put, List.setIfInBounds_toArray, List.set_cons_zero, List.set_cons_succ])
     go_cut [123] (fun v123 wc => ∃ (kq : Nat) (x123_45 : Bool), v123 = .bool x123_45 ∧ As (w_same.j2 kq l0 l6 x123_45 = some r) ∧ As (kq ≤ kj32) ∧ As (wc.heap[gb653]? = some (.cells #[.int .i64 a3_0, .int .i64 a3_1, .int .i64 a3_2, .int .i64 a3_3, .string a3_4, .string a3_5, (.slice A3_6 l3_6.length c3_6)] 33 (0, 0))) ∧ As (Below w.heap.size w wc))
     case first =>
      have H := HC46.out
      clear HC46
      by_cases c49 : t683 = t688
      rotate_left
      ·rw [if_neg c49] at H
       have c49b0 : (t683 == t688) = false := beq_eq_false_iff_ne.mpr c49
       have c49b1 : (t683 != t688) = true := bne_iff_ne.mpr c49
       (first | rw [c49b0] | (simp only [i64_w, i32_w]; rw [c49b0]) | skip)
       have H' := o_ H
       clear H
       go_wp2
       go_meet
       case rel => exact ⟨_, (true), (by first | rfl | simp [*]), H', ⟨by have := HJ9.out; have := HJ32.out; first | omega | exact Nat.le_refl _⟩, ⟨bu BK653⟩, ⟨bl HB⟩⟩
      rw [if_pos c49] at H
      have c49b0 : (t683 == t688) = true := beq_iff_eq.mpr c49
      have c49b1 : (t683 != t688) = false := bne_eq_false_iff_eq.mpr c49
      clear c49
      (first | rw [c49b0] | (simp only [i64_w, i32_w]; rw [c49b0]) | skip)
      by_cases c50 : t682 = t687
      rotate_left
      ·rw [if_neg c50] at H
       have c50b0 : (t682 == t687) = false := beq_eq_false_iff_ne.mpr c50
       have c50b1 : (t682 != t687) = true := bne_iff_ne.mpr c50
       have H' := o_ H
       clear H
       go_wp2
       go_meet
       case rel => exact ⟨_, (true), (by first | rfl | simp [*]), H', ⟨by have := HJ9.out; have := HJ32.out; first | omega | exact Nat.le_refl _⟩, ⟨bu BK653⟩, ⟨bl HB⟩⟩
      rw [if_pos c50] at H
      have c50b0 : (t682 == t687) = true := beq_iff_eq.mpr c50
      have c50b1 : (t682 != t687) = false := bne_eq_false_iff_eq.mpr c50
      clear c50
      obtain ⟨t691, A510, H⟩ := qb H
      try dsimp only at H
      have A51 := o_ A510
      clear A510
      have H' := o_ H
      clear H
      obtain ⟨Ao52, co52, eo52⟩ := Kd.N_slice HO685.out
      subst eo52
      obtain ⟨Ao53, co53, eo53⟩ := Kd.N_slice HO690.out
      subst eo53
      go_wp2_with (first | (go_at_call 14; (with_reducible refine (s_Same.calls kj32 _ _ t681 _ _ t686 t691 _ ?side1 ?side2 ?side3 ?side4 A51.out).mono ?_); (case side1 => exact Cu ⟨(Kd.N_reads' HO685.out).2.2⟩); (case side2 => exact (Kd.N_reads' HO685.out).2.1); (case side3 => exact Cu ⟨(Kd.N_reads' HO690.out).2.2⟩); (case side4 => exact (Kd.N_reads' HO690.out).2.1); rintro e w54 ⟨rfl, hb⟩; have n0_ := o_ (Kd.N_below (Nu HO685) hb); have n1_ := o_ (Kd.N_below (Nu HO690) hb); have n2_ := o_ (blk_below (g := gb653) (o := .cells #[.int .i64 a3_0, .int .i64 a3_1, .int .i64 a3_2, .int .i64 a3_3, .string a3_4, .string a3_5, .slice A3_6 l3_6.length c3_6] 33 (0, 0)) (bu BK653) hb); have n3_ := o_ (below_step (bl HB) hb); clear HO685; clear HO690; clear BK653; clear HB; have HO685 := n0_; have HO690 := n1_; have BK653 := n2_; have HB := n3_; clear n0_ n1_ n2_ n3_; (try clear hb)))
      go_meet
      case rel => exact ⟨_, (!t691), (by first | rfl | simp [*]), H', ⟨by have := HJ9.out; have := HJ32.out; first | omega | exact Nat.le_refl _⟩, ⟨bu BK653⟩, ⟨bl HB⟩⟩
     case rest =>
      clear HC46
      try clear z12
      try clear z14
      try clear z34
      try clear z36
      obtain ⟨kq, x123_45, rfl, HA, HJ45, BK653, HB⟩ := hcut
      cases kq with
      | zero => exact absurd HA.out (by simp [w_same.j2])
      | succ kj45 =>
       have H := HA.out
       clear HA
       simp only [w_same.j2] at H
       by_cases c55 : x123_45 = true
       ·subst c55
        have H1 : (some false) = some r := by rw [if_pos rfl] at H; exact H
        clear H
        have H := H1
        clear H1
        obtain rfl := Option.some.inj H
        go_wp2
        go_ret
        exact ⟨by first | rfl | (simp [*] <;> rfl), bl HB⟩
       replace c55 := Bool.eq_false_iff.mpr c55
       subst c55
       have H1 : ((fill_Gaps.f l0).bind fun t692 => ((r_Gaps.f kj45 l0).bind fun t693 => (if t692 = t693 then ((fill_Words.f l0).bind fun t694 => ((r_Words.f kj45 l0).bind fun t697 => ((w_rows.f kj45 t694 t697).bind fun t700 => (if t700 = true then ((fill_Points.f kj45 l0 l6).bind fun t701 => ((r_Points.f kj45 l0 l6).bind fun t704 => ((s_Same.f kj45 t701 t704).bind fun t707 => (some t707)))) else (some false))))) else (some false)))) = some r := by rw [if_neg (show ¬ (false = true) by decide)] at H; exact H
       clear H
       have H := H1
       clear H1
       obtain ⟨t692, A560, H⟩ := qb H
       try dsimp only at H
       have A56 := o_ A560
       clear A560
       obtain ⟨t693, A570, H⟩ := qb H
       try dsimp only at H
       have A57 := o_ A570
       clear A570
       by_cases c58 : t692 = t693
       rotate_left
       ·rw [if_neg c58] at H
        have c58b0 : (t692 == t693) = false := beq_eq_false_iff_ne.mpr c58
        have c58b1 : (t692 != t693) = true := bne_iff_ne.mpr c58
        obtain rfl := Option.some.inj H
        go_wp2_with (first | (go_at_call 48; (with_reducible refine (fill_Gaps.calls _ _ l0 t692 _ ?side1 ?side2 A56.out).mono ?_); (case side1 => exact Kd.C_below HR0.out (bl HB)); (case side2 => exact HC0.out); rintro e w85 ⟨rfl, hb⟩; have n0_ := o_ (blk_below (g := gb653) (o := .cells #[.int .i64 a3_0, .int .i64 a3_1, .int .i64 a3_2, .int .i64 a3_3, .string a3_4, .string a3_5, .slice A3_6 l3_6.length c3_6] 33 (0, 0)) (bu BK653) hb); have n1_ := o_ (below_step (bl HB) hb); clear BK653; clear HB; have BK653 := n0_; have HB := n1_; clear n0_ n1_; (try clear hb)) | (go_at_call 49; (with_reducible refine (r_Gaps.calls kj45 _ _ l0 t693 _ ?side1 ?side2 A57.out).mono ?_); (case side1 => exact Kd.C_below HR0.out (bl HB)); (case side2 => exact HC0.out); rintro e w86 ⟨rfl, hb⟩; have n0_ := o_ (blk_below (g := gb653) (o := .cells #[.int .i64 a3_0, .int .i64 a3_1, .int .i64 a3_2, .int .i64 a3_3, .string a3_4, .string a3_5, .slice A3_6 l3_6.length c3_6] 33 (0, 0)) (bu BK653) hb); have n1_ := o_ (below_step (bl HB) hb); clear BK653; clear HB; have BK653 := n0_; have HB := n1_; clear n0_ n1_; (try clear hb)))
        go_ret
        exact ⟨by first | rfl | (simp [*] <;> rfl), bl HB⟩
       rw [if_pos c58] at H
       have c58b0 : (t692 == t693) = true := beq_iff_eq.mpr c58
       have c58b1 : (t692 != t693) = false := bne_eq_false_iff_eq.mpr c58
       clear c58
       obtain ⟨t694, A590, H⟩ := qb H
       try dsimp only at H
       have A59 := o_ A590
       clear A590
       obtain ⟨t697, A600, H⟩ := qb H
       try dsimp only at H
       have A60 := o_ A600
       clear A600
       obtain ⟨t700, A610, H⟩ := qb H
       try dsimp only at H
       have A61 := o_ A610
       clear A610
       by_cases c62 : t700 = true
       rotate_left
       ·replace c62 := Bool.eq_false_iff.mpr c62
        subst c62
        have H1 : (some false) = some r := by rw [if_neg (show ¬ (false = true) by decide)] at H; exact H
        clear H
        have H := H1
        clear H1
        obtain rfl := Option.some.inj H
        go_wp2_with (first | (go_at_call 48; (with_reducible refine (fill_Gaps.calls _ _ l0 t692 _ ?side1 ?side2 A56.out).mono ?_); (case side1 => exact Kd.C_below HR0.out (bl HB)); (case side2 => exact HC0.out); rintro e w78 ⟨rfl, hb⟩; have n0_ := o_ (blk_below (g := gb653) (o := .cells #[.int .i64 a3_0, .int .i64 a3_1, .int .i64 a3_2, .int .i64 a3_3, .string a3_4, .string a3_5, .slice A3_6 l3_6.length c3_6] 33 (0, 0)) (bu BK653) hb); have n1_ := o_ (below_step (bl HB) hb); clear BK653; clear HB; have BK653 := n0_; have HB := n1_; clear n0_ n1_; (try clear hb)) | (go_at_call 49; (with_reducible refine (r_Gaps.calls kj45 _ _ l0 t693 _ ?side1 ?side2 A57.out).mono ?_); (case side1 => exact Kd.C_below HR0.out (bl HB)); (case side2 => exact HC0.out); rintro e w79 ⟨rfl, hb⟩; have n0_ := o_ (blk_below (g := gb653) (o := .cells #[.int .i64 a3_0, .int .i64 a3_1, .int .i64 a3_2, .int .i64 a3_3, .string a3_4, .string a3_5, .slice A3_6 l3_6.length c3_6] 33 (0, 0)) (bu BK653) hb); have n1_ := o_ (below_step (bl HB) hb); clear BK653; clear HB; have BK653 := n0_; have HB := n1_; clear n0_ n1_; (try clear hb)) | (go_at_call 50; (with_reducible refine (fill_Words.calls _ _ l0 t694 _ ?side1 ?side2 A59.out).mono ?_); (case side1 => exact Kd.C_below HR0.out (bl HB)); (case side2 => exact HC0.out); rintro e w80 ⟨v695, rfl, ho0, hb⟩; have n0_ := o_ (Kd.N_lower (Kd.N_mono (ok' := fun k_ => k_ ≠ gb653) (Kd.R_N (Kd.R_bound ho0)) (fun k_ hk_ => (Kd.freshB (g := gb653) (o := .cells #[.int .i64 a3_0, .int .i64 a3_1, .int .i64 a3_2, .int .i64 a3_3, .string a3_4, .string a3_5, .slice A3_6 l3_6.length c3_6] 33 (0, 0)) (bu BK653) k_ hk_.2.1))) (below_size (bl HB))); have n1_ := o_ (blk_below (g := gb653) (o := .cells #[.int .i64 a3_0, .int .i64 a3_1, .int .i64 a3_2, .int .i64 a3_3, .string a3_4, .string a3_5, .slice A3_6 l3_6.length c3_6] 33 (0, 0)) (bu BK653) hb); have n2_ := o_ (below_step (bl HB) hb); clear BK653; clear HB; have HO696 := n0_; have BK653 := n1_; have HB := n2_; clear n0_ n1_ n2_; (try clear hb); (try clear ho0)) | (go_at_call 23; (with_reducible refine (r_Words.calls kj45 _ _ l0 t697 _ ?side1 ?side2 A60.out).mono ?_); (case side1 => exact Kd.C_below HR0.out (bl HB)); (case side2 => exact HC0.out); rintro e w81 ⟨v698, rfl, ho0, hb⟩; have n0_ := o_ (Kd.N_elder' (Nu HO696) (by first | exact Kd.N_base ho0 | exact Kd.S_base ho0 | exact Kd.R_base ho0) hb); have n1_ := o_ (Kd.N_lower (Kd.N_mono (ok' := fun k_ => some k_ ≠ (v695 : Value).ownBlock ∧ k_ ≠ gb653) (Kd.R_N (Kd.R_bound ho0)) (fun k_ hk_ => ⟨(Kd.fresh' (Kd.N_lt (Nu HO696)) k_ hk_.2.1), (Kd.freshB (g := gb653) (o := .cells #[.int .i64 a3_0, .int .i64 a3_1, .int .i64 a3_2, .int .i64 a3_3, .string a3_4, .string a3_5, .slice A3_6 l3_6.length c3_6] 33 (0, 0)) (bu BK653) k_ hk_.2.1)⟩)) (below_size (bl HB))); have n2_ := o_ (blk_below (g := gb653) (o := .cells #[.int .i64 a3_0, .int .i64 a3_1, .int .i64 a3_2, .int .i64 a3_3, .string a3_4, .string a3_5, .slice A3_6 l3_6.length c3_6] 33 (0, 0)) (bu BK653) hb); have n3_ := o_ (below_step (bl HB) hb); clear HO696; clear BK653; clear HB; have HO696 := n0_; have HO699 := n1_; have BK653 := n2_; have HB := n3_; clear n0_ n1_ n2_ n3_; (try clear hb); (try clear ho0); obtain ⟨Ao82, co82, eo82⟩ := Kd.N_slice HO696.out; subst eo82; obtain ⟨Ao83, co83, eo83⟩ := Kd.N_slice HO699.out; subst eo83) | (go_at_call 46; (with_reducible refine (w_rows.calls kj45 _ _ t694 _ _ t697 false _ ?side1 ?side2 ?side3 ?side4 A61.out).mono ?_); (case side1 => exact Cu ⟨(Kd.N_reads' HO696.out).2.2⟩); (case side2 => exact (Kd.N_reads' HO696.out).2.1); (case side3 => exact Cu ⟨(Kd.N_reads' HO699.out).2.2⟩); (case side4 => exact (Kd.N_reads' HO699.out).2.1); rintro e w84 ⟨rfl, hb⟩; have n0_ := o_ (Kd.N_below (Nu HO696) hb); have n1_ := o_ (Kd.N_below (Nu HO699) hb); have n2_ := o_ (blk_below (g := gb653) (o := .cells #[.int .i64 a3_0, .int .i64 a3_1, .int .i64 a3_2, .int .i64 a3_3, .string a3_4, .string a3_5, .slice A3_6 l3_6.length c3_6] 33 (0, 0)) (bu BK653) hb); have n3_ := o_ (below_step (bl HB) hb); clear HO696; clear HO699; clear BK653; clear HB; have HO696 := n0_; have HO699 := n1_; have BK653 := n2_; have HB := n3_; clear n0_ n1_ n2_ n3_; (try clear hb)))
        go_ret
        exact ⟨by first | rfl | (simp [*] <;> rfl), bl HB⟩
       subst c62
       have H1 : ((fill_Points.f kj45 l0 l6).bind fun t701 => ((r_Points.f kj45 l0 l6).bind fun t704 => ((s_Same.f kj45 t701 t704).bind fun t707 => (some t707)))) = some r := by rw [if_pos rfl] at H; exact H
       clear H
       have H := H1
       clear H1
       obtain ⟨t701, A630, H⟩ := qb H
       try dsimp only at H
       have A63 := o_ A630
       clear A630
       obtain ⟨t704, A640, H⟩ := qb H
       try dsimp only at H
       have A64 := o_ A640
       clear A640
       obtain ⟨t707, A650, H⟩ := qb H
       try dsimp only at H
       have A65 := o_ A650
       clear A650
       obtain rfl := Option.some.inj H
       go_wp2_with (first | (go_at_call 48; (with_reducible refine (fill_Gaps.calls _ _ l0 t692 _ ?side1 ?side2 A56.out).mono ?_); (case side1 => exact Kd.C_below HR0.out (bl HB)); (case side2 => exact HC0.out); rintro e w66 ⟨rfl, hb⟩; have n0_ := o_ (blk_below (g := gb653) (o := .cells #[.int .i64 a3_0, .int .i64 a3_1, .int .i64 a3_2, .int .i64 a3_3, .string a3_4, .string a3_5, .slice A3_6 l3_6.length c3_6] 33 (0, 0)) (bu BK653) hb); have n1_ := o_ (below_step (bl HB) hb); clear BK653; clear HB; have BK653 := n0_; have HB := n1_; clear n0_ n1_; (try clear hb)) | (go_at_call 49; (with_reducible refine (r_Gaps.calls kj45 _ _ l0 t693 _ ?side1 ?side2 A57.out).mono ?_); (case side1 => exact Kd.C_below HR0.out (bl HB)); (case side2 => exact HC0.out); rintro e w67 ⟨rfl, hb⟩; have n0_ := o_ (blk_below (g := gb653) (o := .cells #[.int .i64 a3_0, .int .i64 a3_1, .int .i64 a3_2, .int .i64 a3_3, .string a3_4, .string a3_5, .slice A3_6 l3_6.length c3_6] 33 (0, 0)) (bu BK653) hb); have n1_ := o_ (below_step (bl HB) hb); clear BK653; clear HB; have BK653 := n0_; have HB := n1_; clear n0_ n1_; (try clear hb)) | (go_at_call 50; (with_reducible refine (fill_Words.calls _ _ l0 t694 _ ?side1 ?side2 A59.out).mono ?_); (case side1 => exact Kd.C_below HR0.out (bl HB)); (case side2 => exact HC0.out); rintro e w68 ⟨v695, rfl, ho0, hb⟩; have n0_ := o_ (Kd.N_lower (Kd.N_mono (ok' := fun k_ => k_ ≠ gb653) (Kd.R_N (Kd.R_bound ho0)) (fun k_ hk_ => (Kd.freshB (g := gb653) (o := .cells #[.int .i64 a3_0, .int .i64 a3_1, .int .i64 a3_2, .int .i64 a3_3, .string a3_4, .string a3_5, .slice A3_6 l3_6.length c3_6] 33 (0, 0)) (bu BK653) k_ hk_.2.1))) (below_size (bl HB))); have n1_ := o_ (blk_below (g := gb653) (o := .cells #[.int .i64 a3_0, .int .i64 a3_1, .int .i64 a3_2, .int .i64 a3_3, .string a3_4, .string a3_5, .slice A3_6 l3_6.length c3_6] 33 (0, 0)) (bu BK653) hb); have n2_ := o_ (below_step (bl HB) hb); clear BK653; clear HB; have HO696 := n0_; have BK653 := n1_; have HB := n2_; clear n0_ n1_ n2_; (try clear hb); (try clear ho0)) | (go_at_call 23; (with_reducible refine (r_Words.calls kj45 _ _ l0 t697 _ ?side1 ?side2 A60.out).mono ?_); (case side1 => exact Kd.C_below HR0.out (bl HB)); (case side2 => exact HC0.out); rintro e w69 ⟨v698, rfl, ho0, hb⟩; have n0_ := o_ (Kd.N_elder' (Nu HO696) (by first | exact Kd.N_base ho0 | exact Kd.S_base ho0 | exact Kd.R_base ho0) hb); have n1_ := o_ (Kd.N_lower (Kd.N_mono (ok' := fun k_ => some k_ ≠ (v695 : Value).ownBlock ∧ k_ ≠ gb653) (Kd.R_N (Kd.R_bound ho0)) (fun k_ hk_ => ⟨(Kd.fresh' (Kd.N_lt (Nu HO696)) k_ hk_.2.1), (Kd.freshB (g := gb653) (o := .cells #[.int .i64 a3_0, .int .i64 a3_1, .int .i64 a3_2, .int .i64 a3_3, .string a3_4, .string a3_5, .slice A3_6 l3_6.length c3_6] 33 (0, 0)) (bu BK653) k_ hk_.2.1)⟩)) (below_size (bl HB))); have n2_ := o_ (blk_below (g := gb653) (o := .cells #[.int .i64 a3_0, .int .i64 a3_1, .int .i64 a3_2, .int .i64 a3_3, .string a3_4, .string a3_5, .slice A3_6 l3_6.length c3_6] 33 (0, 0)) (bu BK653) hb); have n3_ := o_ (below_step (bl HB) hb); clear HO696; clear BK653; clear HB; have HO696 := n0_; have HO699 := n1_; have BK653 := n2_; have HB := n3_; clear n0_ n1_ n2_ n3_; (try clear hb); (try clear ho0); obtain ⟨Ao70, co70, eo70⟩ := Kd.N_slice HO696.out; subst eo70; obtain ⟨Ao71, co71, eo71⟩ := Kd.N_slice HO699.out; subst eo71) | (go_at_call 46; (with_reducible refine (w_rows.calls kj45 _ _ t694 _ _ t697 true _ ?side1 ?side2 ?side3 ?side4 A61.out).mono ?_); (case side1 => exact Cu ⟨(Kd.N_reads' HO696.out).2.2⟩); (case side2 => exact (Kd.N_reads' HO696.out).2.1); (case side3 => exact Cu ⟨(Kd.N_reads' HO699.out).2.2⟩); (case side4 => exact (Kd.N_reads' HO699.out).2.1); rintro e w72 ⟨rfl, hb⟩; have n0_ := o_ (Kd.N_below (Nu HO696) hb); have n1_ := o_ (Kd.N_below (Nu HO699) hb); have n2_ := o_ (blk_below (g := gb653) (o := .cells #[.int .i64 a3_0, .int .i64 a3_1, .int .i64 a3_2, .int .i64 a3_3, .string a3_4, .string a3_5, .slice A3_6 l3_6.length c3_6] 33 (0, 0)) (bu BK653) hb); have n3_ := o_ (below_step (bl HB) hb); clear HO696; clear HO699; clear BK653; clear HB; have HO696 := n0_; have HO699 := n1_; have BK653 := n2_; have HB := n3_; clear n0_ n1_ n2_ n3_; (try clear hb)) | (go_at_call 51; (with_reducible refine (fill_Points.calls kj45 (fun k_ => k_ < w.heap.size) _ _ l0 _ _ l6 t701 _ ?side1 ?side2 ?side3 A63.out).mono ?_); (case side1 => exact Kd.V_mk HC0.out (Kd.F_below (Kd.C_F k33_heap HR0.out) (bl HB))); (case side2 => exact Kd.C_below HR6.out (bl HB)); (case side3 => exact HC6.out); rintro e w73 ⟨v702, rfl, ho0, hb⟩; have n0_ := o_ (Kd.N_elder' (Nu HO696) (by first | exact Kd.N_base ho0 | exact Kd.S_base ho0 | exact Kd.R_base ho0) hb); have n1_ := o_ (Kd.N_elder' (Nu HO699) (by first | exact Kd.N_base ho0 | exact Kd.S_base ho0 | exact Kd.R_base ho0) hb); have n2_ := o_ (Kd.N_lower (Kd.N_mono (ok' := fun k_ => some k_ ≠ (.slice Ao70 t694.length co70 : Value).ownBlock ∧ some k_ ≠ (.slice Ao71 t697.length co71 : Value).ownBlock ∧ k_ ≠ gb653) ho0 (fun k_ hk_ => ⟨Or.elim hk_ (fun hs_ => fun e_ => Nat.not_le.2 hs_ (Kd.N_base HO696.out k_ e_.symm)) (fun hn_ => (Kd.fresh' (Kd.N_lt (Nu HO696)) k_ hn_)), Or.elim hk_ (fun hs_ => fun e_ => Nat.not_le.2 hs_ (Kd.N_base HO699.out k_ e_.symm)) (fun hn_ => (Kd.fresh' (Kd.N_lt (Nu HO699)) k_ hn_)), Or.elim hk_ (fun hs_ => fun e_ => Nat.not_le.2 hs_ (by rw [e_]; exact GW653.out)) (fun hn_ => (Kd.freshB (g := gb653) (o := .cells #[.int .i64 a3_0, .int .i64 a3_1, .int .i64 a3_2, .int .i64 a3_3, .string a3_4, .string a3_5, .slice A3_6 l3_6.length c3_6] 33 (0, 0)) (bu BK653) k_ hn_))⟩)) (below_size (bl HB))); have n3_ := o_ (blk_below (g := gb653) (o := .cells #[.int .i64 a3_0, .int .i64 a3_1, .int .i64 a3_2, .int .i64 a3_3, .string a3_4, .string a3_5, .slice A3_6 l3_6.length c3_6] 33 (0, 0)) (bu BK653) hb); have n4_ := o_ (below_step (bl HB) hb); clear HO696; clear HO699; clear BK653; clear HB; have HO696 := n0_; have HO699 := n1_; have HO703 := n2_; have BK653 := n3_; have HB := n4_; clear n0_ n1_ n2_ n3_ n4_; (try clear hb); (try clear ho0)) | (go_at_call 52; (with_reducible refine (r_Points.calls kj45 _ _ l0 _ _ l6 t704 _ ?side1 ?side2 ?side3 ?side4 A64.out).mono ?_); (case side1 => exact Kd.C_below HR0.out (bl HB)); (case side2 => exact HC0.out); (case side3 => exact Kd.C_below HR6.out (bl HB)); (case side4 => exact HC6.out); rintro e w74 ⟨v705, rfl, ho0, hb⟩; have n0_ := o_ (Kd.N_elder' (Nu HO696) (by first | exact Kd.N_base ho0 | exact Kd.S_base ho0 | exact Kd.R_base ho0) hb); have n1_ := o_ (Kd.N_elder' (Nu HO699) (by first | exact Kd.N_base ho0 | exact Kd.S_base ho0 | exact Kd.R_base ho0) hb); have n2_ := o_ (Kd.N_elder' (Nu HO703) (by first | exact Kd.N_base ho0 | exact Kd.S_base ho0 | exact Kd.R_base ho0) hb); have n3_ := o_ (Kd.N_lower (Kd.N_mono (ok' := fun k_ => some k_ ≠ (.slice Ao70 t694.length co70 : Value).ownBlock ∧ some k_ ≠ (.slice Ao71 t697.length co71 : Value).ownBlock ∧ some k_ ≠ (v702 : Value).ownBlock ∧ k_ ≠ gb653) ho0 (fun k_ hk_ => ⟨(Kd.fresh' (Kd.N_lt (Nu HO696)) k_ hk_), (Kd.fresh' (Kd.N_lt (Nu HO699)) k_ hk_), (Kd.fresh' (Kd.N_lt (Nu HO703)) k_ hk_), (Kd.freshB (g := gb653) (o := .cells #[.int .i64 a3_0, .int .i64 a3_1, .int .i64 a3_2, .int .i64 a3_3, .string a3_4, .string a3_5, .slice A3_6 l3_6.length c3_6] 33 (0, 0)) (bu BK653) k_ hk_)⟩)) (below_size (bl HB))); have n4_ := o_ (blk_below (g := gb653) (o := .cells #[.int .i64 a3_0, .int .i64 a3_1, .int .i64 a3_2, .int .i64 a3_3, .string a3_4, .string a3_5, .slice A3_6 l3_6.length c3_6] 33 (0, 0)) (bu BK653) hb); have n5_ := o_ (below_step (bl HB) hb); clear HO696; clear HO699; clear HO703; clear BK653; clear HB; have HO696 := n0_; have HO699 := n1_; have HO703 := n2_; have HO706 := n3_; have BK653 := n4_; have HB := n5_; clear n0_ n1_ n2_ n3_ n4_ n5_; (try clear hb); (try clear ho0); obtain ⟨Ao75, co75, eo75⟩ := Kd.N_slice HO703.out; subst eo75; obtain ⟨Ao76, co76, eo76⟩ := Kd.N_slice HO706.out; subst eo76) | (go_at_call 14; (with_reducible refine (s_Same.calls kj45 _ _ t701 _ _ t704 t707 _ ?side1 ?side2 ?side3 ?side4 A65.out).mono ?_); (case side1 => exact Cu ⟨(Kd.N_reads' HO703.out).2.2⟩); (case side2 => exact (Kd.N_reads' HO703.out).2.1); (case side3 => exact Cu ⟨(Kd.N_reads' HO706.out).2.2⟩); (case side4 => exact (Kd.N_reads' HO706.out).2.1); rintro e w77 ⟨rfl, hb⟩; have n0_ := o_ (Kd.N_below (Nu HO696) hb); have n1_ := o_ (Kd.N_below (Nu HO699) hb); have n2_ := o_ (Kd.N_below (Nu HO703) hb); have n3_ := o_ (Kd.N_below (Nu HO706) hb); have n4_ := o_ (blk_below (g := gb653) (o := .cells #[.int .i64 a3_0, .int .i64 a3_1, .int .i64 a3_2, .int .i64 a3_3, .string a3_4, .string a3_5, .slice A3_6 l3_6.length c3_6] 33 (0, 0)) (bu BK653) hb); have n5_ := o_ (below_step (bl HB) hb); clear HO696; clear HO699; clear HO703; clear HO706; clear BK653; clear HB; have HO696 := n0_; have HO699 := n1_; have HO703 := n2_; have HO706 := n3_; have BK653 := n4_; have HB := n5_; clear n0_ n1_ n2_ n3_ n4_ n5_; (try clear hb)))
       go_ret
       exact ⟨by first | rfl | (simp [*] <;> rfl), bl HB⟩
end Go.Proofs.Yteadghhmoggjnaa.Q
end
section
section
namespace Go.Proofs.Yteadghhmoggjnaa.Q
open Go.RowKit YteadghhmoggjnaaW.PrintWords YteadghhmoggjnaaW.PrintLast YteadghhmoggjnaaW.PrintMore
attribute [local go_sem] max2_int max_two
set_option maxHeartbeats 8000000
set_option maxRecDepth 100000
def w_a.f (a0 : Int) : Option (Int × Int × Int × Int × ByteArray × ByteArray × List Int) := some (0, a0, 0, 10, (⟨#[97]⟩ : ByteArray), (⟨#[]⟩ : ByteArray), ([] : List Int))
theorem w_a.calls (a0 : Int) (r1 : Int) (r2 : Int) (r3 : Int) (r4 : Int) (r5 : ByteArray) (r6 : ByteArray) (r7 : List Int) (w : World) (h : w_a.f a0 = some (r1, r2, r3, r4, r5, r6, r7)) :
  Calls Try.prog 37 #[.int .i64 a0] w fun e w' => ∃ v6_ : Value, e = .returned (.agg #[.int .i64 r1, .int .i64 r2, .int .i64 r3, .int .i64 r4, .string r5, .string r6, v6_]) ∧ Kd.R (Kd.int .i64) 3 w' w.heap.size (fun _ => True) v6_ r7 ∧ Below w.heap.size w w' := by
 have hu33 := Try.underlying33
 have HB := o_ (Below.refl w.heap.size w)
 have H : (some (0, a0, 0, 10, (⟨#[97]⟩ : ByteArray), (⟨#[]⟩ : ByteArray), ([] : List Int))) = some (r1, r2, r3, r4, r5, r6, r7) := h
 clear h
 simp only [Option.some.injEq, Prod.mk.injEq] at H
 obtain ⟨rfl, rfl, rfl, rfl, rfl, rfl, rfl⟩ := H
 go_enter Try.func37, Try.ntmps37
 go_wp2_with (first | ((with_reducible refine gate_dst (N := 2) rfl ?_); refine box_event ?hg (N := 2) ?hd (cs := #[.int .i64 0, .int .i64 0, .int .i64 0, .int .i64 0, .string ⟨#[]⟩, .string ⟨#[]⟩, .slice none 0 0]) (t := 33) ?hr ?_; (case hd => rfl); (case hg => rfl); (case hr => first | (go_simp; done) | (go_simp; rfl)); intro gb173 hg w2 hbox hb; have n0_ := o_ (below_step (by repeat (first | (with_reducible first | exact HB.out | apply below_alloc | apply pw_below_drewN | apply below_drew1) | exact HB.out)) hb); have n1_ := o_ (hbox); have n2_ := o_ ((by rw [hg]; exact (below_size (by repeat (first | (with_reducible first | exact HB.out | apply below_alloc | apply pw_below_drewN | apply below_drew1) | exact HB.out))) : w.heap.size ≤ gb173)); have n3_ := o_ ((by rw [hg]; exact (below_size (by repeat (first | (with_reducible first | exact HB.out | apply below_alloc | apply pw_below_drewN | apply below_drew1) | exact HB.out))) : w.heap.size ≤ gb173)); clear HB; have HB := n0_; have BK173 := n1_; have GW173 := n2_; have GE173 := n3_; clear n0_ n1_ n2_ n3_; clear hb hbox hg; have z3 := box7 BK173))
 refine bodyPost_ret (results_cell_row rfl _ _ gb173 33 #[.int .i64 0, .int .i64 a0, .int .i64 0, .int .i64 10, .string ⟨#[97]⟩, .string ⟨#[]⟩, .slice none 0 0] (0, 0) _ rfl (by (with_reducible repeat (first | refine blk_drewN ?_ _ | refine blk_drew ?_ | refine blk_alloc ?_ _)); refine blk_put (cs := #[.int .i64 0, .int .i64 a0, .int .i64 0, .int .i64 10, .string ⟨#[97]⟩, .string ⟨#[]⟩, .slice none 0 0]) ?_ 6 _ rfl; refine blk_put (cs := #[.int .i64 0, .int .i64 a0, .int .i64 0, .int .i64 10, .string ⟨#[97]⟩, .string ⟨#[]⟩, .slice none 0 0]) ?_ 5 _ rfl; refine blk_put (cs := #[.int .i64 0, .int .i64 a0, .int .i64 0, .int .i64 10, .string ⟨#[]⟩, .string ⟨#[]⟩, .slice none 0 0]) ?_ 4 _ rfl; refine blk_put (cs := #[.int .i64 0, .int .i64 a0, .int .i64 0, .int .i64 0, .string ⟨#[]⟩, .string ⟨#[]⟩, .slice none 0 0]) ?_ 3 _ rfl; refine blk_put (cs := #[.int .i64 0, .int .i64 a0, .int .i64 0, .int .i64 0, .string ⟨#[]⟩, .string ⟨#[]⟩, .slice none 0 0]) ?_ 2 _ rfl; refine blk_put (cs := #[.int .i64 0, .int .i64 0, .int .i64 0, .int .i64 0, .string ⟨#[]⟩, .string ⟨#[]⟩, .slice none 0 0]) ?_ 1 _ rfl; refine blk_put (cs := #[.int .i64 0, .int .i64 0, .int .i64 0, .int .i64 0, .string ⟨#[]⟩, .string ⟨#[]⟩, .slice none 0 0]) ?_ 0 _ rfl; (with_reducible repeat (first | refine blk_drewN ?_ _ | refine blk_drew ?_ | refine blk_alloc ?_ _)); exact BK173.out) Try.underlying33 rfl (by kernel_rfl)) rfl ?_
 exact ⟨_, by first | rfl | (simp [*] <;> rfl), by first | exact Kd.R_nil _ _ _ _ _ | exact Kd.N_nil _ _ _ _ _ | exact Kd.V_nil _ _ _ _ _ | exact Kd.Q_nil _ _ _ _ _ | exact Kd.S_nil _ _ _ _ _, by repeat (first | (with_reducible first | exact HB.out | apply below_alloc | apply pw_below_drewN | apply below_drew1 | refine below_set ?_ GE173.out) | exact HB.out)⟩
end Go.Proofs.Yteadghhmoggjnaa.Q
end
section
namespace Go.Proofs.YteadghhmoggjnaaB
open Go.RowKit
open Yteadghhmoggjnaa.Q (S33 k33 z33 k33_open k33_mk k33_mkM k33_openF)
open YteadghhmoggjnaaW.PrintWords (Kd ReadsRow)
set_option maxHeartbeats 1600000
set_option maxRecDepth 1000000
def gA : S33 := ⟨0, 10, 0, 10, ⟨#[97]⟩, ⟨#[]⟩, []⟩
def gB (w : Int) : S33 := ⟨1, w, 0, 10, ⟨#[]⟩, ⟨#[]⟩, []⟩
theorem sane_take : Yteadghhmoggjnaa.Q.fill_Take.f [gA, gB 5, gA, gB 5, gA] 26 5 0 0 0 ⟨#[]⟩ ⟨#[]⟩ [] = some ([gA, gB 5, gA], [gA], true, 0) := by kernel_rfl
theorem sane_adj : Yteadghhmoggjnaa.Q.fill_Adjust.f [gA, gB 5, gA] 26 98 true = some ([gA, gB 6, gA], 0, 0) := by kernel_rfl
theorem five_rd {W : World} {g : Nat} {t : TypeId} {fr : Nat × Nat} {A0 A1 A2 A3 A4 : Option Addr} {c0 c1 c2 c3 c4 : Nat} (hb : W.heap[g]? = some (.cells (S33cells gA A0 c0 ++ (S33cells (gB 5) A1 c1 ++ (S33cells gA A2 c2 ++ (S33cells (gB 5) A3 c3 ++ S33cells gA A4 c4)))).toArray t fr)) :
  boxK.Rd W (fun _ => True) (some ⟨g, 0, none⟩) 5 [gA, gB 5, gA, gB 5, gA] := by
 have key : ∀ (i j : Nat) (u : Value), (S33cells gA A0 c0 ++ (S33cells (gB 5) A1 c1 ++ (S33cells gA A2 c2 ++ (S33cells (gB 5) A3 c3 ++ S33cells gA A4 c4))))[i * 7 + j]? = some u → W.cell? ⟨g, 0 + i * boxK.sz + j, none⟩ = some u := fun i j u h => by
  have e : 0 + i * boxK.sz + j = i * 7 + j := by show 0 + i * 7 + j = _; omega
  rw [e, blk_cell hb, List.getElem?_toArray]
  exact h
 refine ⟨rfl, fun _ => ⟨g, 0, rfl, trivial, blk_lt hb, fun i x hx => ?_⟩⟩
 rcases i with _ | _ | _ | _ | _ | i
 ·obtain rfl : gA = x := by simpa using hx
  exact ⟨_, ⟨A0, c0, rfl, Nat.zero_le _, Kind.Rd.nil _ _ _ _⟩, fun j u hu => key 0 j u (by rcases j with _ | _ | _ | _ | _ | _ | _ | j <;> first | exact hu | (cases hu))⟩
 ·obtain rfl : gB 5 = x := by simpa using hx
  exact ⟨_, ⟨A1, c1, rfl, Nat.zero_le _, Kind.Rd.nil _ _ _ _⟩, fun j u hu => key 1 j u (by rcases j with _ | _ | _ | _ | _ | _ | _ | j <;> first | exact hu | (cases hu))⟩
 ·obtain rfl : gA = x := by simpa using hx
  exact ⟨_, ⟨A2, c2, rfl, Nat.zero_le _, Kind.Rd.nil _ _ _ _⟩, fun j u hu => key 2 j u (by rcases j with _ | _ | _ | _ | _ | _ | _ | j <;> first | exact hu | (cases hu))⟩
 ·obtain rfl : gB 5 = x := by simpa using hx
  exact ⟨_, ⟨A3, c3, rfl, Nat.zero_le _, Kind.Rd.nil _ _ _ _⟩, fun j u hu => key 3 j u (by rcases j with _ | _ | _ | _ | _ | _ | _ | j <;> first | exact hu | (cases hu))⟩
 ·obtain rfl : gA = x := by simpa using hx
  exact ⟨_, ⟨A4, c4, rfl, Nat.zero_le _, Kind.Rd.nil _ _ _ _⟩, fun j u hu => key 4 j u (by rcases j with _ | _ | _ | _ | _ | _ | _ | j <;> first | exact hu | (cases hu))⟩
 ·simp at hx
theorem small3 (l : List S33) (h : l.all (fun x => decide (x.f6.length ≤ 9223372036854775807)) = true) : ∀ x ∈ l, x.f6.length ≤ 9223372036854775807 := fun x hx => of_decide_eq_true (List.all_eq_true.1 h x hx)
theorem nil_C (W : World) : (Kd.int .i64).C W none 0 [] := ⟨rfl, by decide, fun h => absurd h (by decide)⟩
theorem sane_any (w : World) : Calls Try.prog 15 #[] w fun e w' => e = .returned (.bool true) ∧ Below w.heap.size w w' := by
  have HB : Hid (Below w.heap.size w w) := hide (Below.refl _ _)
  go_enter Try.func15, Try.ntmps15
  go_wp2_with (first
    | (go_at_call 37
       refine (Yteadghhmoggjnaa.Q.w_a.calls 10 0 10 0 10 ⟨#[97]⟩ ⟨#[]⟩ [] _ rfl).mono ?_
       rintro e w2 ⟨v6, rfl, hv, hb⟩
       obtain ⟨A6, c6, rfl⟩ := Kd.R_slice hv
       have HB2 := hide (below_self HB.out hb)
       clear hv hb HB
       have HB := HB2
       clear HB2)
    | (go_at_call 18
       refine (Yteadghhmoggjnaa.Q.w_blank.calls 5 1 5 0 10 ⟨#[]⟩ ⟨#[]⟩ [] _ rfl).mono ?_
       rintro e w2 ⟨v6, rfl, hv, hb⟩
       obtain ⟨A6, c6, rfl⟩ := Kd.R_slice hv
       have HB2 := hide (below_self HB.out hb)
       clear hv hb HB
       have HB := HB2
       clear HB2)
    | (go_at_call 16
       refine (Yteadghhmoggjnaa.Q.fill_Take.calls (some ⟨w2.heap.size, 0, none⟩) 5 [gA, gB 5, gA, gB 5, gA] 26 5 0 0 0 ⟨#[]⟩ ⟨#[]⟩ none 0 [] [gA, gB 5, gA] [gA] true 0 _ (C_boxes (by decide) (small3 _ rfl) (five_rd (blk_new w2 _))) (by decide) (nil_C _) (Nat.le_refl _) sane_take).mono ?_
       rintro e w3 ⟨v0, v1, rfl, hs0, hs1, hb⟩
       obtain ⟨A7, c7, rfl, h7, hf7⟩ := Kd.S_V (base' := 0) hs0
       obtain ⟨A8, c8, rfl, -, -⟩ := Kd.S_V (base' := 0) hs1
       have HR7 := hide (rd_of_F hf7)
       have HB3 : Hid (Below w.heap.size w w3) := hide (below_self (below_self HB.out (below_a _)) hb)
       clear hs0 hs1 hb hf7 HB)
    | (go_at_call 11
       refine (Yteadghhmoggjnaa.Q.fill_Adjust.calls A7 c7 [gA, gB 5, gA] 26 98 true [gA, gB 6, gA] 0 0 _ (C_boxes (by decide) (small3 _ rfl) HR7.out) h7 sane_adj).mono ?_
       rintro e w4 ⟨v0, rfl, hs0, hb⟩
       obtain ⟨A9, c9, rfl, -, hf9⟩ := Kd.S_V (base' := 0) hs0
       obtain ⟨b9, o9, A10, c10, rfl, -, -, -, -, z1, -, -, -, -, -⟩ := box_cells (i := 1) (x := gB 6) (rd_of_F hf9) rfl
       have z1' : w4.cell? ⟨b9, o9 + 7 + 1, none⟩ = some (.int .i64 6) := z1
       have HB4 : Hid (Below w.heap.size w w4) := hide (below_self HB3.out hb)
       clear hs0 hb hf9 z1))
  go_ret
  exact ⟨rfl, HB4.out⟩
end Go.Proofs.YteadghhmoggjnaaB
end
section
namespace Go.Proofs.Yteadghhmoggjnaa.Q
open Go.RowKit YteadghhmoggjnaaW.PrintWords YteadghhmoggjnaaW.PrintLast YteadghhmoggjnaaW.PrintMore
attribute [local go_sem] max2_int max_two
def w_sane.f  : Option (Bool) := some true
theorem w_sane.calls  (r : Bool) (w : World) (h : w_sane.f  = some r) :
  Calls Try.prog 15 #[] w fun e w' => e = .returned (.bool r) ∧ Below w.heap.size w w' := by
 obtain rfl := Option.some.inj h
 exact Go.Proofs.YteadghhmoggjnaaB.sane_any w
end Go.Proofs.Yteadghhmoggjnaa.Q
end
end
