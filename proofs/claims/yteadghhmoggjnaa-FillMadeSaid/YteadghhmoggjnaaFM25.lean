import Derived.Test.YteadghhmoggjnaaFM19
set_option linter.unusedVariables false
set_option linter.unusedSimpArgs false
section
namespace Go.Proofs.Yteadghhmoggjnaa.Q
open Go.RowKit YteadghhmoggjnaaW.PrintWords YteadghhmoggjnaaW.PrintLast YteadghhmoggjnaaW.PrintMore
attribute [local go_sem] max2_int max_two
set_option maxHeartbeats 8000000
set_option maxRecDepth 100000
mutual
def r_Adjust.j0 : Nat → List (S33) → Int → Int → Bool → Int → Bool → Option ((List (S33)) × Int × Int)
 | 0, _, _, _, _, _, _ => none
 | k + 1, x0, x1, x2, x3, x11, x44 => if x44 = true then (some (([] : List (S33)), 0, 1)) else (if x11 = 0 then ((r_own.f k x0).bind fun t582 => ((s_Width.f k x0).bind fun t585 => (if x2 = 114 then (some (t582, mx (wrap64 (x1 - t585)) 0, 0)) else (if x2 = 99 then (some (t582, wrap64 ((mx (wrap64 (x1 - t585)) 0) / 2), 0)) else (if x2 = 98 then ((r_Growing.f k x0).bind fun t586 => (r_Adjust.l0 k x3 t582 (mx (wrap64 (x1 - t585)) 0) t586 0)) else (some (t582, 0, 0))))))) else (some (([] : List (S33)), 0, x11)))
def r_Adjust.l0 : Nat → Bool → List (S33) → Int → List Int → Int → Option ((List (S33)) × Int × Int)
 | 0, _, _, _, _, _ => none
 | k + 1, x3, x12, x13, x14, x15 => if x15 < (x14.length : Int) then (if 0 ≤ x15 then (if 0 ≤ (rd x14 x15) then (if (rd x14 x15) < (x12.length : Int) then (if (x14.length : Int) = 0 then (none) else ((some (x12.set ((rd x14 x15) : Int).toNat (⟨(rT x12 (rd x14 x15)).f0, wrap64 (((rT x12 (rd x14 x15)).f1) + (wrap64 (Int.tdiv x13 (x14.length : Int)))), (rT x12 (rd x14 x15)).f2, (rT x12 (rd x14 x15)).f3, (rT x12 (rd x14 x15)).f4, (rT x12 (rd x14 x15)).f5, (rT x12 (rd x14 x15)).f6⟩ : S33) : List (S33))).bind fun y591 => (if x3 = true then (if x15 < (Int.tmod x13 (x14.length : Int)) then (r_Adjust.l0 k x3 (y591.set ((rd x14 x15) : Int).toNat (⟨(rT y591 (rd x14 x15)).f0, wrap64 ((wrap64 (((rT x12 (rd x14 x15)).f1) + (wrap64 (Int.tdiv x13 (x14.length : Int))))) + 1), (rT y591 (rd x14 x15)).f2, (rT y591 (rd x14 x15)).f3, (rT y591 (rd x14 x15)).f4, (rT y591 (rd x14 x15)).f5, (rT y591 (rd x14 x15)).f6⟩ : S33)) x13 x14 (wrap64 (x15 + 1))) else (r_Adjust.l0 k x3 y591 x13 x14 (wrap64 (x15 + 1)))) else (if x15 ≥ (wrap64 ((x14.length : Int) - (Int.tmod x13 (x14.length : Int)))) then (r_Adjust.l0 k x3 (y591.set ((rd x14 x15) : Int).toNat (⟨(rT y591 (rd x14 x15)).f0, wrap64 ((wrap64 (((rT x12 (rd x14 x15)).f1) + (wrap64 (Int.tdiv x13 (x14.length : Int))))) + 1), (rT y591 (rd x14 x15)).f2, (rT y591 (rd x14 x15)).f3, (rT y591 (rd x14 x15)).f4, (rT y591 (rd x14 x15)).f5, (rT y591 (rd x14 x15)).f6⟩ : S33)) x13 x14 (wrap64 (x15 + 1))) else (r_Adjust.l0 k x3 y591 x13 x14 (wrap64 (x15 + 1))))))) else (none)) else (none)) else (none)) else (some (x12, 0, 0))
end
def r_Adjust.f (k : Nat) (l0 : List (S33)) (a1 : Int) (a2 : Int) (a3 : Bool) : Option ((List (S33)) × Int × Int) := (r_check.f k l0).bind fun t581 => (if t581 = 1 then (r_Adjust.j0 k l0 a1 a2 a3 t581 true) else (if a1 < 0 then (r_Adjust.j0 k l0 a1 a2 a3 t581 true) else (if a1 > 10000000 then (r_Adjust.j0 k l0 a1 a2 a3 t581 true) else (if a2 = 108 then (r_Adjust.j0 k l0 a1 a2 a3 t581 false) else (if a2 = 114 then (r_Adjust.j0 k l0 a1 a2 a3 t581 false) else (if a2 = 99 then (r_Adjust.j0 k l0 a1 a2 a3 t581 false) else (r_Adjust.j0 k l0 a1 a2 a3 t581 (a2 != 98))))))))
def r_Adjust.T18 : Bool × List (List Nat × List Nat) := (true, [([], []), ([], []), ([], []), ([1, 2], [1, 2]), ([3], [3]), ([0, 4], [0, 4]), ([5], [5]), ([6], [6]), ([], []), ([], []), ([9], [9]), ([8, 10], [8, 10]), ([7, 11], [7, 11]), ([0, 4, 0, 1, 2, 3, 4, 5, 6, 7, 8, 9, 10, 11, 12], [0, 4]), ([13, 0, 1, 2, 3, 4, 5, 6, 7, 8, 9, 10, 11, 12], [13]), ([14, 12, 0, 1, 2, 3, 4, 5, 6, 7, 8, 9, 10, 11, 12], [12, 14])])
def r_Adjust.B18 : List Nat := [0, 0, 0, 6, 14, 31, 63, 127, 0, 0, 512, 1792, 4095, 8191, 16383, 32767]
theorem r_Adjust.tab18 : rtab .any (opsOf Try.f47 18) = r_Adjust.T18 := by kernel_rfl
theorem r_Adjust.bits18 : waitsOk r_Adjust.T18.2 r_Adjust.B18 = true := by kernel_rfl
theorem r_Adjust.calls (k : Nat) (A0 : Option Addr) (c0 : Nat) (l0 : List (S33)) (a1 : Int) (a2 : Int) (a3 : Bool) (r1 : List (S33)) (r2 : Int) (r3 : Int) (w : World) (hr0 : Kd.C k33 w A0 l0.length l0) (hc0 : l0.length ≤ c0) (h : r_Adjust.f k l0 a1 a2 a3 = some (r1, r2, r3)) :
  Calls Try.prog 47 #[.slice A0 l0.length c0, .int .i64 a1, .int .u8 a2, .bool a3] w fun e w' => ∃ v0_ : Value, e = .returned (.tuple #[v0_, .int .i64 r2, .int .i64 r3]) ∧ Kd.S k33 33 w' w.heap.size (fun _ => True) v0_ r1 ∧ Below w.heap.size w w' := by
 have HR0 := o_ hr0
 have HC0 := o_ hc0
 clear hr0 hc0
 have HB := o_ (Below.refl w.heap.size w)
 have H : ((r_check.f k l0).bind fun t581 => (if t581 = 1 then (r_Adjust.j0 k l0 a1 a2 a3 t581 true) else (if a1 < 0 then (r_Adjust.j0 k l0 a1 a2 a3 t581 true) else (if a1 > 10000000 then (r_Adjust.j0 k l0 a1 a2 a3 t581 true) else (if a2 = 108 then (r_Adjust.j0 k l0 a1 a2 a3 t581 false) else (if a2 = 114 then (r_Adjust.j0 k l0 a1 a2 a3 t581 false) else (if a2 = 99 then (r_Adjust.j0 k l0 a1 a2 a3 t581 false) else (r_Adjust.j0 k l0 a1 a2 a3 t581 (a2 != 98))))))))) = some (r1, r2, r3) := h
 clear h
 obtain ⟨t581, A50, H⟩ := qb H
 try dsimp only at H
 have A5 := o_ A50
 clear A50
 have HC6 := o_ H
 clear H
 go_enter Try.func47, Try.ntmps47
 go_upto_region 2 with (first | (go_at_call 67; (with_reducible refine (r_check.calls k _ _ l0 t581 _ ?side1 ?side2 A5.out).mono ?_); (case side1 => exact Cu HR0); (case side2 => exact HC0.out); rintro e w7 ⟨rfl, hb⟩; have n0_ := o_ (below_step (by repeat (first | (with_reducible first | exact HB.out | apply below_alloc | apply pw_below_drewN | apply below_drew1) | exact HB.out)) hb); clear HB; have HB := n0_; clear n0_; (try clear hb)))
 (try simp only [Act.put, List.setIfInBounds_toArray, List.set_cons_zero, List.set_cons_succ])
 go_cut [44] (fun v44 wc => ∃ (kq : Nat) (x44_5 : Bool), v44 = .bool x44_5 ∧ As (r_Adjust.j0 kq l0 a1 a2 a3 t581 x44_5 = some (r1, r2, r3)) ∧ As (kq ≤ k) ∧ As (Below w.heap.size w wc))
 case first =>
  have H := HC6.out
  clear HC6
  by_cases c8 : t581 = 1
  ·rw [if_pos c8] at H
   have c8b0 : (t581 == 1) = true := beq_iff_eq.mpr c8
   have c8b1 : (t581 != 1) = false := bne_eq_false_iff_eq.mpr c8
   clear c8
   (first | rw [c8b0] | (simp only [i64_w, i32_w]; rw [c8b0]) | skip)
   have H' := o_ H
   clear H
   go_wp2
   go_meet
   case rel => exact ⟨_, (true), (by first | rfl | simp [*]), H', ⟨by first | omega | exact Nat.le_refl _⟩, ⟨by repeat (first | (with_reducible first | exact HB.out | apply below_alloc | apply pw_below_drewN | apply below_drew1) | exact HB.out)⟩⟩
  rw [if_neg c8] at H
  have c8b0 : (t581 == 1) = false := beq_eq_false_iff_ne.mpr c8
  have c8b1 : (t581 != 1) = true := bne_iff_ne.mpr c8
  (first | rw [c8b0] | (simp only [i64_w, i32_w]; rw [c8b0]) | skip)
  by_cases c9 : a1 < 0
  ·rw [if_pos c9] at H
   have c9b0 := decide_eq_true c9
   clear c9
   have H' := o_ H
   clear H
   go_wp2
   go_meet
   case rel => exact ⟨_, (true), (by first | rfl | simp [*]), H', ⟨by first | omega | exact Nat.le_refl _⟩, ⟨by repeat (first | (with_reducible first | exact HB.out | apply below_alloc | apply pw_below_drewN | apply below_drew1) | exact HB.out)⟩⟩
  rw [if_neg c9] at H
  have c9b0 := decide_eq_false c9
  clear c9
  by_cases c10 : a1 > 10000000
  ·rw [if_pos c10] at H
   have c10b0 : decide (10000000 < a1) = true := decide_eq_true c10
   clear c10
   have H' := o_ H
   clear H
   go_wp2
   go_meet
   case rel => exact ⟨_, (true), (by first | rfl | simp [*]), H', ⟨by first | omega | exact Nat.le_refl _⟩, ⟨by repeat (first | (with_reducible first | exact HB.out | apply below_alloc | apply pw_below_drewN | apply below_drew1) | exact HB.out)⟩⟩
  rw [if_neg c10] at H
  have c10b0 : decide (10000000 < a1) = false := decide_eq_false c10
  clear c10
  by_cases c11 : a2 = 108
  ·rw [if_pos c11] at H
   have c11b0 : (a2 == 108) = true := beq_iff_eq.mpr c11
   have c11b1 : (a2 != 108) = false := bne_eq_false_iff_eq.mpr c11
   clear c11
   have H' := o_ H
   clear H
   go_wp2
   go_meet
   case rel => exact ⟨_, (false), (by first | rfl | simp [*]), H', ⟨by first | omega | exact Nat.le_refl _⟩, ⟨by repeat (first | (with_reducible first | exact HB.out | apply below_alloc | apply pw_below_drewN | apply below_drew1) | exact HB.out)⟩⟩
  rw [if_neg c11] at H
  have c11b0 : (a2 == 108) = false := beq_eq_false_iff_ne.mpr c11
  have c11b1 : (a2 != 108) = true := bne_iff_ne.mpr c11
  by_cases c12 : a2 = 114
  ·rw [if_pos c12] at H
   have c12b0 : (a2 == 114) = true := beq_iff_eq.mpr c12
   have c12b1 : (a2 != 114) = false := bne_eq_false_iff_eq.mpr c12
   clear c12
   have H' := o_ H
   clear H
   go_wp2
   go_meet
   case rel => exact ⟨_, (false), (by first | rfl | simp [*]), H', ⟨by first | omega | exact Nat.le_refl _⟩, ⟨by repeat (first | (with_reducible first | exact HB.out | apply below_alloc | apply pw_below_drewN | apply below_drew1) | exact HB.out)⟩⟩
  rw [if_neg c12] at H
  have c12b0 : (a2 == 114) = false := beq_eq_false_iff_ne.mpr c12
  have c12b1 : (a2 != 114) = true := bne_iff_ne.mpr c12
  by_cases c13 : a2 = 99
  rotate_left
  ·rw [if_neg c13] at H
   have c13b0 : (a2 == 99) = false := beq_eq_false_iff_ne.mpr c13
   have c13b1 : (a2 != 99) = true := bne_iff_ne.mpr c13
   have H' := o_ H
   clear H
   go_wp2
   go_meet
   case rel => exact ⟨_, ((a2 != 98)), (by first | rfl | simp [*]), H', ⟨by first | omega | exact Nat.le_refl _⟩, ⟨by repeat (first | (with_reducible first | exact HB.out | apply below_alloc | apply pw_below_drewN | apply below_drew1) | exact HB.out)⟩⟩
  rw [if_pos c13] at H
  have c13b0 : (a2 == 99) = true := beq_iff_eq.mpr c13
  have c13b1 : (a2 != 99) = false := bne_eq_false_iff_eq.mpr c13
  clear c13
  have H' := o_ H
  clear H
  go_wp2
  go_meet
  case rel => exact ⟨_, (false), (by first | rfl | simp [*]), H', ⟨by first | omega | exact Nat.le_refl _⟩, ⟨by repeat (first | (with_reducible first | exact HB.out | apply below_alloc | apply pw_below_drewN | apply below_drew1) | exact HB.out)⟩⟩
 case rest =>
  clear HC6
  obtain ⟨kq, x44_5, rfl, HA, HJ5, HB⟩ := hcut
  cases kq with
  | zero => exact absurd HA.out (by simp [r_Adjust.j0])
  | succ kj5 =>
   have H := HA.out
   clear HA
   simp only [r_Adjust.j0] at H
   by_cases c14 : x44_5 = true
   ·subst c14
    have H1 : (some (([] : List (S33)), 0, 1)) = some (r1, r2, r3) := by rw [if_pos rfl] at H; exact H
    clear H
    have H := H1
    clear H1
    simp only [Option.some.injEq, Prod.mk.injEq] at H
    obtain ⟨rfl, rfl, rfl⟩ := H
    go_wp2
    go_ret3
    exact ⟨_, by first | rfl | (simp [*] <;> rfl), by first | exact Kd.S_nil _ _ _ _ _ | exact Kd.N_nil _ _ _ _ _ | exact Kd.V_nil _ _ _ _ _ | exact Kd.Q_nil _ _ _ _ _ | exact Kd.R_nil _ _ _ _ _, by repeat (first | (with_reducible first | exact HB.out | apply below_alloc | apply pw_below_drewN | apply below_drew1) | exact HB.out)⟩
   replace c14 := Bool.eq_false_iff.mpr c14
   subst c14
   have H1 : (if t581 = 0 then ((r_own.f kj5 l0).bind fun t582 => ((s_Width.f kj5 l0).bind fun t585 => (if a2 = 114 then (some (t582, mx (wrap64 (a1 - t585)) 0, 0)) else (if a2 = 99 then (some (t582, wrap64 ((mx (wrap64 (a1 - t585)) 0) / 2), 0)) else (if a2 = 98 then ((r_Growing.f kj5 l0).bind fun t586 => (r_Adjust.l0 kj5 a3 t582 (mx (wrap64 (a1 - t585)) 0) t586 0)) else (some (t582, 0, 0))))))) else (some (([] : List (S33)), 0, t581))) = some (r1, r2, r3) := by rw [if_neg (show ¬ (false = true) by decide)] at H; exact H
   clear H
   have H := H1
   clear H1
   by_cases c15 : t581 = 0
   rotate_left
   ·rw [if_neg c15] at H
    have c15b0 : (t581 == 0) = false := beq_eq_false_iff_ne.mpr c15
    have c15b1 : (t581 != 0) = true := bne_iff_ne.mpr c15
    simp only [Option.some.injEq, Prod.mk.injEq] at H
    obtain ⟨rfl, rfl, rfl⟩ := H
    go_wp2
    go_ret3
    exact ⟨_, by first | rfl | (simp [*] <;> rfl), by first | exact Kd.S_nil _ _ _ _ _ | exact Kd.N_nil _ _ _ _ _ | exact Kd.V_nil _ _ _ _ _ | exact Kd.Q_nil _ _ _ _ _ | exact Kd.R_nil _ _ _ _ _, by repeat (first | (with_reducible first | exact HB.out | apply below_alloc | apply pw_below_drewN | apply below_drew1) | exact HB.out)⟩
   rw [if_pos c15] at H
   have c15b0 : (t581 == 0) = true := beq_iff_eq.mpr c15
   have c15b1 : (t581 != 0) = false := bne_eq_false_iff_eq.mpr c15
   clear c15
   obtain ⟨t582, A160, H⟩ := qb H
   try dsimp only at H
   have A16 := o_ A160
   clear A160
   obtain ⟨t585, A170, H⟩ := qb H
   try dsimp only at H
   have A17 := o_ A170
   clear A170
   obtain ⟨ji18, hji18⟩ : ∃ j_ : Int, (mx (wrap64 (a1 - t585)) 0) = j_ := ⟨_, rfl⟩
   replace H : (if a2 = 114 then (some (t582, ji18, 0)) else (if a2 = 99 then (some (t582, wrap64 ((ji18) / 2), 0)) else (if a2 = 98 then ((r_Growing.f kj5 l0).bind fun t586 => (r_Adjust.l0 kj5 a3 t582 ji18 t586 0)) else (some (t582, 0, 0))))) = some (r1, r2, r3) := by first | (rw [hji18] at H; exact H) | (simp only [hji18] at H ⊢; exact H)
   (try rw [hji18] at A16)
   (try rw [hji18] at A17)
   have hji18_ : (if (wrap64 (a1 - t585)) < 0 then 0 else (wrap64 (a1 - t585))) = ji18 := hji18
   have htd18 : ji18.tdiv 2 = ji18 / 2 := Int.tdiv_eq_ediv_of_nonneg (by rw [← hji18_]; split <;> omega)
   by_cases c19 : a2 = 114
   ·rw [if_pos c19] at H
    have c19b0 : (a2 == 114) = true := beq_iff_eq.mpr c19
    have c19b1 : (a2 != 114) = false := bne_eq_false_iff_eq.mpr c19
    clear c19
    simp only [Option.some.injEq, Prod.mk.injEq] at H
    obtain ⟨rfl, rfl, rfl⟩ := H
    go_wp2_with (first | (go_at_call 42; (with_reducible refine (r_own.calls kj5 _ _ l0 t582 _ ?side1 ?side2 A16.out).mono ?_); (case side1 => exact Kd.C_below HR0.out (bl HB)); (case side2 => exact HC0.out); rintro e w20 ⟨v583, rfl, ho0, hb⟩; have n0_ := o_ (Kd.S_lower ho0 (below_size (by repeat (first | (with_reducible first | exact HB.out | apply below_alloc | apply pw_below_drewN | apply below_drew1) | exact HB.out)))); have n1_ := o_ (below_step (by repeat (first | (with_reducible first | exact HB.out | apply below_alloc | apply pw_below_drewN | apply below_drew1) | exact HB.out)) hb); clear HB; have HO584 := n0_; have HB := n1_; clear n0_ n1_; (try clear hb); (try clear ho0)) | ((with_reducible refine gate_callee (f := 13) rfl ?_); refine goesL_ (some 52) rfl rfl Try.func13 (by kernel_rfl) rfl #[.slice A0 l0.length c0] rfl (by (try simp only [List.map_toArray, List.map_cons, List.map_nil]); first | done | rfl | (simp only [List.length_drop, List.length_take]; rfl)) ?_; (with_reducible refine (s_Width.calls kj5 _ _ l0 t585 _ ?side1 ?side2 A17.out).mono ?_); (case side1 => exact Kd.C_below HR0.out (bl HB)); (case side2 => exact HC0.out); rintro e w' ⟨rfl, ⟨nd, rfl⟩⟩; refine ⟨_, rfl, ?_⟩))
    go_ret3
    exact ⟨_, by first | rfl | (simp [errW_none, errW_some] <;> rfl) | (simp only [← hji18]; first | rfl | (simp [errW_none, errW_some] <;> rfl)) | (simp [*, errW_none, errW_some] <;> rfl), by (with_reducible repeat (first | apply Kd.S_alloc | apply Kd.S_drewN | apply Kd.S_drew)); exact HO584.out, by repeat (first | (with_reducible first | exact HB.out | apply below_alloc | apply pw_below_drewN | apply below_drew1) | exact HB.out)⟩
   rw [if_neg c19] at H
   have c19b0 : (a2 == 114) = false := beq_eq_false_iff_ne.mpr c19
   have c19b1 : (a2 != 114) = true := bne_iff_ne.mpr c19
   by_cases c21 : a2 = 99
   ·rw [if_pos c21] at H
    have c21b0 : (a2 == 99) = true := beq_iff_eq.mpr c21
    have c21b1 : (a2 != 99) = false := bne_eq_false_iff_eq.mpr c21
    clear c21
    simp only [Option.some.injEq, Prod.mk.injEq] at H
    obtain ⟨rfl, rfl, rfl⟩ := H
    go_wp2_with (first | (go_at_call 42; (with_reducible refine (r_own.calls kj5 _ _ l0 t582 _ ?side1 ?side2 A16.out).mono ?_); (case side1 => exact Kd.C_below HR0.out (bl HB)); (case side2 => exact HC0.out); rintro e w22 ⟨v583, rfl, ho0, hb⟩; have n0_ := o_ (Kd.S_lower ho0 (below_size (by repeat (first | (with_reducible first | exact HB.out | apply below_alloc | apply pw_below_drewN | apply below_drew1) | exact HB.out)))); have n1_ := o_ (below_step (by repeat (first | (with_reducible first | exact HB.out | apply below_alloc | apply pw_below_drewN | apply below_drew1) | exact HB.out)) hb); clear HB; have HO584 := n0_; have HB := n1_; clear n0_ n1_; (try clear hb); (try clear ho0)) | ((with_reducible refine gate_callee (f := 13) rfl ?_); refine goesL_ (some 52) rfl rfl Try.func13 (by kernel_rfl) rfl #[.slice A0 l0.length c0] rfl (by (try simp only [List.map_toArray, List.map_cons, List.map_nil]); first | done | rfl | (simp only [List.length_drop, List.length_take]; rfl)) ?_; (with_reducible refine (s_Width.calls kj5 _ _ l0 t585 _ ?side1 ?side2 A17.out).mono ?_); (case side1 => exact Kd.C_below HR0.out (bl HB)); (case side2 => exact HC0.out); rintro e w' ⟨rfl, ⟨nd, rfl⟩⟩; refine ⟨_, rfl, ?_⟩))
    go_ret3
    exact ⟨_, by first | rfl | (simp [errW_none, errW_some] <;> rfl) | (simp only [← hji18]; first | rfl | (simp [errW_none, errW_some] <;> rfl)) | (simp [*, errW_none, errW_some] <;> rfl), by (with_reducible repeat (first | apply Kd.S_alloc | apply Kd.S_drewN | apply Kd.S_drew)); exact HO584.out, by repeat (first | (with_reducible first | exact HB.out | apply below_alloc | apply pw_below_drewN | apply below_drew1) | exact HB.out)⟩
   rw [if_neg c21] at H
   have c21b0 : (a2 == 99) = false := beq_eq_false_iff_ne.mpr c21
   have c21b1 : (a2 != 99) = true := bne_iff_ne.mpr c21
   by_cases c23 : a2 = 98
   rotate_left
   ·rw [if_neg c23] at H
    have c23b0 : (a2 == 98) = false := beq_eq_false_iff_ne.mpr c23
    have c23b1 : (a2 != 98) = true := bne_iff_ne.mpr c23
    simp only [Option.some.injEq, Prod.mk.injEq] at H
    obtain ⟨rfl, rfl, rfl⟩ := H
    go_wp2_with (first | (go_at_call 42; (with_reducible refine (r_own.calls kj5 _ _ l0 t582 _ ?side1 ?side2 A16.out).mono ?_); (case side1 => exact Kd.C_below HR0.out (bl HB)); (case side2 => exact HC0.out); rintro e w63 ⟨v583, rfl, ho0, hb⟩; have n0_ := o_ (Kd.S_lower ho0 (below_size (by repeat (first | (with_reducible first | exact HB.out | apply below_alloc | apply pw_below_drewN | apply below_drew1) | exact HB.out)))); have n1_ := o_ (below_step (by repeat (first | (with_reducible first | exact HB.out | apply below_alloc | apply pw_below_drewN | apply below_drew1) | exact HB.out)) hb); clear HB; have HO584 := n0_; have HB := n1_; clear n0_ n1_; (try clear hb); (try clear ho0)) | ((with_reducible refine gate_callee (f := 13) rfl ?_); refine goesL_ (some 52) rfl rfl Try.func13 (by kernel_rfl) rfl #[.slice A0 l0.length c0] rfl (by (try simp only [List.map_toArray, List.map_cons, List.map_nil]); first | done | rfl | (simp only [List.length_drop, List.length_take]; rfl)) ?_; (with_reducible refine (s_Width.calls kj5 _ _ l0 t585 _ ?side1 ?side2 A17.out).mono ?_); (case side1 => exact Kd.C_below HR0.out (bl HB)); (case side2 => exact HC0.out); rintro e w' ⟨rfl, ⟨nd, rfl⟩⟩; refine ⟨_, rfl, ?_⟩))
    go_ret3
    exact ⟨_, by first | rfl | (simp [errW_none, errW_some] <;> rfl) | (simp only [← hji18]; first | rfl | (simp [errW_none, errW_some] <;> rfl)) | (simp [*, errW_none, errW_some] <;> rfl), by (with_reducible repeat (first | apply Kd.S_alloc | apply Kd.S_drewN | apply Kd.S_drew)); exact HO584.out, by repeat (first | (with_reducible first | exact HB.out | apply below_alloc | apply pw_below_drewN | apply below_drew1) | exact HB.out)⟩
   rw [if_pos c23] at H
   have c23b0 : (a2 == 98) = true := beq_iff_eq.mpr c23
   have c23b1 : (a2 != 98) = false := bne_eq_false_iff_eq.mpr c23
   clear c23
   obtain ⟨t586, A240, H⟩ := qb H
   try dsimp only at H
   have A24 := o_ A240
   clear A240
   have H' := o_ H
   clear H
   go_wp2_with (first | (go_at_call 42; (with_reducible refine (r_own.calls kj5 _ _ l0 t582 _ ?side1 ?side2 A16.out).mono ?_); (case side1 => exact Kd.C_below HR0.out (bl HB)); (case side2 => exact HC0.out); rintro e w25 ⟨v583, rfl, ho0, hb⟩; have n0_ := o_ (Kd.S_lower ho0 (below_size (by repeat (first | (with_reducible first | exact HB.out | apply below_alloc | apply pw_below_drewN | apply below_drew1) | exact HB.out)))); have n1_ := o_ (below_step (by repeat (first | (with_reducible first | exact HB.out | apply below_alloc | apply pw_below_drewN | apply below_drew1) | exact HB.out)) hb); clear HB; have HO584 := n0_; have HB := n1_; clear n0_ n1_; (try clear hb); (try clear ho0)) | ((with_reducible refine gate_callee (f := 13) rfl ?_); refine goesL_ (some 52) rfl rfl Try.func13 (by kernel_rfl) rfl #[.slice A0 l0.length c0] rfl (by (try simp only [List.map_toArray, List.map_cons, List.map_nil]); first | done | rfl | (simp only [List.length_drop, List.length_take]; rfl)) ?_; (with_reducible refine (s_Width.calls kj5 _ _ l0 t585 _ ?side1 ?side2 A17.out).mono ?_); (case side1 => exact Kd.C_below HR0.out (bl HB)); (case side2 => exact HC0.out); rintro e w' ⟨rfl, ⟨nd, rfl⟩⟩; refine ⟨_, rfl, ?_⟩) | (go_at_call 12; (with_reducible refine (r_Growing.calls kj5 _ _ l0 t586 _ ?side1 ?side2 A24.out).mono ?_); (case side1 => repeat (first | exact (Kd.C_below HR0.out (by repeat (first | (with_reducible first | exact HB.out | apply below_alloc | apply pw_below_drewN | apply below_drew1) | exact HB.out))) | (with_reducible refine Kd.C_alloc ?_ _) | (with_reducible refine Kd.C_drewN ?_ _) | (with_reducible refine Kd.C_drew ?_))); (case side2 => exact HC0.out); rintro e w26 ⟨v587, rfl, ho0, hb⟩; have n0_ := o_ (Kd.S_elder' (by (with_reducible repeat (first | apply Kd.S_alloc | apply Kd.S_drewN | apply Kd.S_drew)); exact HO584.out) (Kd.R_base ho0) hb); have n1_ := o_ (Kd.R_lower ho0 (below_size (by repeat (first | (with_reducible first | exact HB.out | apply below_alloc | apply pw_below_drewN | apply below_drew1) | exact HB.out)))); have n2_ := o_ (below_step (by repeat (first | (with_reducible first | exact HB.out | apply below_alloc | apply pw_below_drewN | apply below_drew1) | exact HB.out)) hb); clear HO584; clear HB; have HO584 := n0_; have HO588 := n1_; have HB := n2_; clear n0_ n1_ n2_; (try clear hb); (try clear ho0)))
   go_loopg [15] kj5 (fun kq v15 w' => ∃ (x12_2 : List (S33)) (x15_2 : Int), v15 = .int .i64 x15_2 ∧ As (r_Adjust.l0 kq a3 x12_2 ji18 t586 x15_2 = some (r1, r2, r3)) ∧ As (kq ≤ kj5) ∧ As (Kd.S k33 33 w' w.heap.size (fun k_ => some k_ ≠ (v587 : Value).ownBlock) v583 x12_2) ∧ As (Kd.R (Kd.int .i64) 3 w' w.heap.size (fun _ => True) v587 t586) ∧ As (Below w.heap.size w w'))
   case atStart => exact ⟨(t582), (0), (by first | rfl | simp [*]), H', ⟨Nat.le_refl _⟩, ⟨by (with_reducible repeat (first | apply Kd.S_alloc | apply Kd.S_drewN | apply Kd.S_drew)); exact Kd.S_mono HO584.out (fun _ hk => hk.2)⟩, ⟨by (with_reducible repeat (first | apply Kd.R_alloc | apply Kd.R_drewN | apply Kd.R_drew)); exact HO588.out⟩, ⟨by repeat (first | (with_reducible first | exact HB.out | apply below_alloc | apply pw_below_drewN | apply below_drew1) | exact HB.out)⟩⟩
   case round =>
    clear H'
    obtain ⟨x12_2, x15_2, rfl, HA, HK2, HO_12, HO_14, HB⟩ := hrel
    cases gk with
    | zero => exact absurd HA.out (by simp [r_Adjust.l0])
    | succ k2 =>
     have H := HA.out
     clear HA
     simp only [r_Adjust.l0] at H
     by_cases c27 : x15_2 < (t586.length : Int)
     rotate_left
     ·rw [if_neg c27] at H
      have c27b0 := decide_eq_false c27
      clear c27
      simp only [Option.some.injEq, Prod.mk.injEq] at H
      obtain ⟨rfl, rfl, rfl⟩ := H
      obtain ⟨Ao62, co62, eo62⟩ := Kd.R_slice HO_14.out
      subst eo62
      go_wp2
      go_ret3
      exact ⟨_, by first | rfl | (simp [errW_none, errW_some] <;> rfl) | (simp only [← hji18]; first | rfl | (simp [errW_none, errW_some] <;> rfl)) | (simp [*, errW_none, errW_some] <;> rfl), by (with_reducible repeat (first | apply Kd.S_alloc | apply Kd.S_drewN | apply Kd.S_drew)); exact Kd.S_mono HO_12.out (fun _ hk => trivial), by repeat (first | (with_reducible first | exact HB.out | apply below_alloc | apply pw_below_drewN | apply below_drew1) | exact HB.out)⟩
     rw [if_pos c27] at H
     have c27b0 := decide_eq_true c27
     clear c27
     by_cases c28 : 0 ≤ x15_2
     rotate_left
     ·rw [if_neg c28] at H
      exact absurd H (by simp)
     rw [if_pos c28] at H
     have c28b0 := decide_eq_true c28
     clear c28
     by_cases c29 : 0 ≤ (rd t586 x15_2)
     rotate_left
     ·rw [if_neg c29] at H
      exact absurd H (by simp)
     rw [if_pos c29] at H
     have c29b0 := decide_eq_true c29
     clear c29
     by_cases c30 : (rd t586 x15_2) < (x12_2.length : Int)
     rotate_left
     ·rw [if_neg c30] at H
      exact absurd H (by simp)
     rw [if_pos c30] at H
     have c30b0 := decide_eq_true c30
     clear c30
     by_cases c31 : (t586.length : Int) = 0
     ·rw [if_pos c31] at H
      exact absurd H (by simp)
     rw [if_neg c31] at H
     have c31b0 : ((t586.length : Int) == 0) = false := beq_eq_false_iff_ne.mpr c31
     have c31b1 : ((t586.length : Int) != 0) = true := bne_iff_ne.mpr c31
     have c31b2 : ¬ (t586 = []) := fun h_ => c31 (by rw [h_]; rfl)
     obtain ⟨y591, hy591⟩ : ∃ y_ : List (S33), y_ = (x12_2.set ((rd t586 x15_2) : Int).toNat (⟨(rT x12_2 (rd t586 x15_2)).f0, wrap64 (((rT x12_2 (rd t586 x15_2)).f1) + (wrap64 (Int.tdiv ji18 (t586.length : Int)))), (rT x12_2 (rd t586 x15_2)).f2, (rT x12_2 (rd t586 x15_2)).f3, (rT x12_2 (rd t586 x15_2)).f4, (rT x12_2 (rd t586 x15_2)).f5, (rT x12_2 (rd t586 x15_2)).f6⟩ : S33)) := ⟨_, rfl⟩
     replace H : (if a3 = true then (if x15_2 < (Int.tmod ji18 (t586.length : Int)) then (r_Adjust.l0 k2 a3 (y591.set ((rd t586 x15_2) : Int).toNat (⟨(rT y591 (rd t586 x15_2)).f0, wrap64 ((wrap64 (((rT x12_2 (rd t586 x15_2)).f1) + (wrap64 (Int.tdiv ji18 (t586.length : Int))))) + 1), (rT y591 (rd t586 x15_2)).f2, (rT y591 (rd t586 x15_2)).f3, (rT y591 (rd t586 x15_2)).f4, (rT y591 (rd t586 x15_2)).f5, (rT y591 (rd t586 x15_2)).f6⟩ : S33)) ji18 t586 (wrap64 (x15_2 + 1))) else (r_Adjust.l0 k2 a3 y591 ji18 t586 (wrap64 (x15_2 + 1)))) else (if x15_2 ≥ (wrap64 ((t586.length : Int) - (Int.tmod ji18 (t586.length : Int)))) then (r_Adjust.l0 k2 a3 (y591.set ((rd t586 x15_2) : Int).toNat (⟨(rT y591 (rd t586 x15_2)).f0, wrap64 ((wrap64 (((rT x12_2 (rd t586 x15_2)).f1) + (wrap64 (Int.tdiv ji18 (t586.length : Int))))) + 1), (rT y591 (rd t586 x15_2)).f2, (rT y591 (rd t586 x15_2)).f3, (rT y591 (rd t586 x15_2)).f4, (rT y591 (rd t586 x15_2)).f5, (rT y591 (rd t586 x15_2)).f6⟩ : S33)) ji18 t586 (wrap64 (x15_2 + 1))) else (r_Adjust.l0 k2 a3 y591 ji18 t586 (wrap64 (x15_2 + 1))))) = some (r1, r2, r3) := by first | (rw [hy591]; with_reducible exact H) | (have H2_ := (Option.bind_some _ _).symm.trans H; rw [hy591]; with_reducible exact H2_) | (have H2_ := (Option.bind_some _ _).symm.trans H; with_reducible exact H2_) | with_reducible exact H | (rw [hy591]; exact H) | exact H
     have Ny591 := o_ hy591
     clear hy591
     by_cases c33 : a3 = true
     ·subst c33
      have H1 : (if x15_2 < (Int.tmod ji18 (t586.length : Int)) then (r_Adjust.l0 k2 true (y591.set ((rd t586 x15_2) : Int).toNat (⟨(rT y591 (rd t586 x15_2)).f0, wrap64 ((wrap64 (((rT x12_2 (rd t586 x15_2)).f1) + (wrap64 (Int.tdiv ji18 (t586.length : Int))))) + 1), (rT y591 (rd t586 x15_2)).f2, (rT y591 (rd t586 x15_2)).f3, (rT y591 (rd t586 x15_2)).f4, (rT y591 (rd t586 x15_2)).f5, (rT y591 (rd t586 x15_2)).f6⟩ : S33)) ji18 t586 (wrap64 (x15_2 + 1))) else (r_Adjust.l0 k2 true y591 ji18 t586 (wrap64 (x15_2 + 1)))) = some (r1, r2, r3) := by rw [if_pos rfl] at H; exact H
      clear H
      have H := H1
      clear H1
      by_cases c34 : x15_2 < (Int.tmod ji18 (t586.length : Int))
      rotate_left
      ·rw [if_neg c34] at H
       have c34b0 := decide_eq_false c34
       have hm9 : Int.tmod ji18 (t586.length : Int) = ji18 % (t586.length : Int) := Int.tmod_eq_emod_of_nonneg (by rw [← hji18_]; split <;> omega)
       have c34b9 := c34b0
       rw [hm9] at c34b9
       clear hm9
       clear c34
       have H' := o_ H
       clear H
       obtain ⟨Ao44, co44, eo44⟩ := Kd.R_slice HO_14.out
       subst eo44
       try go_wp2
       have n0_ := o_ (Kd.S_drew HO_12.out)
       have n1_ := o_ (Kd.R_drew HO_14.out)
       have n2_ := o_ (below_drew1 HB.out)
       clear HO_12
       clear HO_14
       clear HB
       have HO_12 := n0_
       have HO_14 := n1_
       have HB := n2_
       clear n0_ n1_ n2_
       have p589 : 0 ≤ (x15_2 : Int) := oa
       have q589 : x15_2 < (t586.length : Int) := oa
       obtain ⟨ad589, e589, hx589_0⟩ := Kd.at_int (Kd.R_reads' HO_14.out).2.2 x15_2 p589 q589
       cases e589
       replace p589 := eq_true p589
       replace q589 := eq_true q589
       obtain ⟨Ao46, co46, eo46⟩ := Kd.S_slice HO_12.out
       (first | subst eo46 | (injection eo46 with f1_ f2_ f3_; have f4_ := f1_.symm; have f5_ := f3_.symm; clear f1_ f2_ f3_; subst f4_; subst f5_))
       have p590 : 0 ≤ ((rd t586 x15_2) : Int) := oa
       have q590 : (rd t586 x15_2) < (x12_2.length : Int) := oa
       obtain ⟨ad590, A590_6, c590_6, e590, hx590_0, hx590_1, hx590_2, hx590_3, hx590_4, hx590_5, hx590_6, hl590_6, hi590_6⟩ := aT (Kd.S_reads' HO_12.out).2.2 (rd t586 x15_2) p590 q590
       cases e590
       obtain ⟨ce590, hce590, hMe590, hcc590⟩ := Kd.S_get HO_12.out z33 (rd t586 x15_2) p590 (by first | exact q590 | exact oa | (have e_ := (Kd.S_reads' HO_12.out).1; omega))
       obtain ⟨ve590_6, rfl, ge590_6⟩ := k33_openM hMe590
       have hv590_6 := hcc590 6 _ rfl
       rw [add_field _ _ 6 (by omega)] at hv590_6
       replace hv590_6 := Option.some.inj (hv590_6.symm.trans hx590_6)
       rw [hv590_6] at ge590_6
       have HL590_6 := o_ (show Kd.R (Kd.int .i64) 3 _ _ _ _ ((rT x12_2 (rd t586 x15_2)).f6) from ge590_6)
       clear hv590_6 ge590_6
       clear hcc590 hce590
       have HR590_6 := o_ hi590_6
       have HC590_6 := o_ hl590_6
       clear hi590_6 hl590_6
       replace p590 := eq_true p590
       replace q590 := eq_true q590
       have p32 : 0 ≤ ((rd t586 x15_2) : Int) := oa
       have q32 : ((rd t586 x15_2) : Int) < ((x12_2.length : Int) : Int) := oa
       obtain ⟨go32, co32, eo32, gb32, gl32, cl32, HG32⟩ := Kd.S_form HO_12.out (by omega)
       (first | cases eo32 | (injection eo32 with ea_ en_ ec_; (first | subst ea_ | (injection ea_ with ea_; subst ea_)); subst ec_; clear en_))
       have GB32 := o_ gb32
       have GG32 := o_ HG32
       clear gb32 gl32 HG32
       (first | simp only [add_plain] at hx590_0 | skip)
       (first | simp only [add_plain] at hx590_1 | skip)
       (first | simp only [add_plain] at hx590_2 | skip)
       (first | simp only [add_plain] at hx590_3 | skip)
       (first | simp only [add_plain] at hx590_4 | skip)
       (first | simp only [add_plain] at hx590_5 | skip)
       (first | simp only [add_plain] at hx590_6 | skip)
       obtain ⟨_, ce32, hcl32, hM32, hcc32, hfr32, _, _⟩ := Kd.S_elem HO_12.out z33 ((rd t586 x15_2) : Int) p32 q32
       obtain ⟨ve32_6, rfl, ge32_6⟩ := k33_openM hM32
       have hx32_0 : World.cell? _ ⟨go32, ((rd t586 x15_2) : Int).toNat * 7, none⟩ = some (.int .i64 ((rT x12_2 (rd t586 x15_2)).f0)) := hcc32 0 _ rfl
       have hx32_1 : World.cell? _ ⟨go32, ((rd t586 x15_2) : Int).toNat * 7 + 1, none⟩ = some (.int .i64 ((rT x12_2 (rd t586 x15_2)).f1)) := hcc32 1 _ rfl
       have hx32_2 : World.cell? _ ⟨go32, ((rd t586 x15_2) : Int).toNat * 7 + 2, none⟩ = some (.int .i64 ((rT x12_2 (rd t586 x15_2)).f2)) := hcc32 2 _ rfl
       have hx32_3 : World.cell? _ ⟨go32, ((rd t586 x15_2) : Int).toNat * 7 + 3, none⟩ = some (.int .i64 ((rT x12_2 (rd t586 x15_2)).f3)) := hcc32 3 _ rfl
       have hx32_4 : World.cell? _ ⟨go32, ((rd t586 x15_2) : Int).toNat * 7 + 4, none⟩ = some (.string ((rT x12_2 (rd t586 x15_2)).f4)) := hcc32 4 _ rfl
       have hx32_5 : World.cell? _ ⟨go32, ((rd t586 x15_2) : Int).toNat * 7 + 5, none⟩ = some (.string ((rT x12_2 (rd t586 x15_2)).f5)) := hcc32 5 _ rfl
       have hx32_6 : World.cell? _ ⟨go32, ((rd t586 x15_2) : Int).toNat * 7 + 6, none⟩ = some (ve32_6) := hcc32 6 _ rfl
       have hf32_0 : World.frozen? _ ⟨go32, ((rd t586 x15_2) : Int).toNat * 7, none⟩ = false := hfr32 0
       have hf32_1 : World.frozen? _ ⟨go32, ((rd t586 x15_2) : Int).toNat * 7 + 1, none⟩ = false := hfr32 1
       have hf32_2 : World.frozen? _ ⟨go32, ((rd t586 x15_2) : Int).toNat * 7 + 2, none⟩ = false := hfr32 2
       have hf32_3 : World.frozen? _ ⟨go32, ((rd t586 x15_2) : Int).toNat * 7 + 3, none⟩ = false := hfr32 3
       have hf32_4 : World.frozen? _ ⟨go32, ((rd t586 x15_2) : Int).toNat * 7 + 4, none⟩ = false := hfr32 4
       have hf32_5 : World.frozen? _ ⟨go32, ((rd t586 x15_2) : Int).toNat * 7 + 5, none⟩ = false := hfr32 5
       have hf32_6 : World.frozen? _ ⟨go32, ((rd t586 x15_2) : Int).toNat * 7 + 6, none⟩ = false := hfr32 6
       clear hcl32 hcc32 hfr32 hM32
       replace p32 := eq_true p32
       replace q32 := eq_true q32
       have HX47 := o_ (show Kd.S k33 33 _ w.heap.size (fun k_ => ((fun k_ => some k_ ≠ (.slice (some ad589) t586.length co44 : Value).ownBlock)) k_ ∧ ¬ (fun _ => False) k_) (.slice (some ⟨go32, 0, none⟩) x12_2.length co46) x12_2 from (by exact Kd.S_mono HO_12.out (fun k_ hk => ⟨hk, fun e_ => e_⟩)))
       obtain ⟨oki47, ce47, hcl47, hM47, hcc47, hfr47, hoki47, hH47⟩ := Kd.S_elem HX47.out z33 ((rd t586 x15_2) : Int) (oa) (by have h_ : ((rd t586 x15_2) : Int) < ((x12_2.length : Int) : Int) := oa; first | exact h_ | (have e_ := (Kd.S_reads' HO_12.out).1; omega) | simpa using h_)
       obtain ⟨ve47_6, rfl, ge47_6⟩ := k33_openM hM47
       have HP47 := (Kd.S_seg hH47 (oa) (by have h_ : ((rd t586 x15_2) : Int) < ((x12_2.length : Int) : Int) := oa; first | exact h_ | (have e_ := (Kd.S_reads' HO_12.out).1; omega) | simpa using h_) (seg := [.int .i64 (wrap64 (((rT x12_2 (rd t586 x15_2)).f1) + (wrap64 (Int.tdiv ji18 (t586.length : Int)))))]) (j := 1) (show 2 ≤ 7 from by decide) (x' := (⟨(rT x12_2 (rd t586 x15_2)).f0, wrap64 (((rT x12_2 (rd t586 x15_2)).f1) + (wrap64 (Int.tdiv ji18 (t586.length : Int)))), (rT x12_2 (rd t586 x15_2)).f2, (rT x12_2 (rd t586 x15_2)).f3, (rT x12_2 (rd t586 x15_2)).f4, (rT x12_2 (rd t586 x15_2)).f5, (rT x12_2 (rd t586 x15_2)).f6⟩ : S33)) (k33_mkM _ _ _ (⟨(rT x12_2 (rd t586 x15_2)).f0, wrap64 (((rT x12_2 (rd t586 x15_2)).f1) + (wrap64 (Int.tdiv ji18 (t586.length : Int)))), (rT x12_2 (rd t586 x15_2)).f2, (rT x12_2 (rd t586 x15_2)).f3, (rT x12_2 (rd t586 x15_2)).f4, (rT x12_2 (rd t586 x15_2)).f5, (rT x12_2 (rd t586 x15_2)).f6⟩ : S33) ge47_6) (fun _ hk => Or.inl hk) (fun _ hk => hk.elim)).1
       rw [← Ny591.out] at HP47
       have HQ47 := o_ HP47
       clear hcl47 hcc47 hfr47 hM47 HP47
       refine start_ (n := 16) (S := fun w' => w'.cell? (ad589.add (x15_2).toNat) = some (.int .i64 (rd t586 x15_2)) ∧ w'.cell? ⟨go32, ((rd t586 x15_2) : Int).toNat * 7, none⟩ = some (.int .i64 ((rT x12_2 (rd t586 x15_2)).f0)) ∧ w'.cell? ⟨go32, ((rd t586 x15_2) : Int).toNat * 7 + 1, none⟩ = some (.int .i64 ((rT x12_2 (rd t586 x15_2)).f1)) ∧ w'.cell? ⟨go32, ((rd t586 x15_2) : Int).toNat * 7 + 2, none⟩ = some (.int .i64 ((rT x12_2 (rd t586 x15_2)).f2)) ∧ w'.cell? ⟨go32, ((rd t586 x15_2) : Int).toNat * 7 + 3, none⟩ = some (.int .i64 ((rT x12_2 (rd t586 x15_2)).f3)) ∧ w'.cell? ⟨go32, ((rd t586 x15_2) : Int).toNat * 7 + 4, none⟩ = some (.string ((rT x12_2 (rd t586 x15_2)).f4)) ∧ w'.cell? ⟨go32, ((rd t586 x15_2) : Int).toNat * 7 + 5, none⟩ = some (.string ((rT x12_2 (rd t586 x15_2)).f5)) ∧ w'.cell? ⟨go32, ((rd t586 x15_2) : Int).toNat * 7 + 6, none⟩ = some (.slice A590_6 ((rT x12_2 (rd t586 x15_2)).f6).length c590_6)) (ds := [15]) #[false, false, false, false, false, false, false, false, false, false, false, false, false, false, false, false] (by kernel_rfl) rfl rfl ⟨hx589_0, hx590_0, hx590_1, hx590_2, hx590_3, hx590_4, hx590_5, hx590_6⟩ (fun hHeld => ?_); refine with_tabW r_Adjust.tab18 r_Adjust.bits18 (fun HT_ HW_ => ?_)
       generalize wr.drew = w45 at HO_12 HO_14 HB GG32 HL590_6 HQ47 HR590_6 hf32_0 hf32_1 hf32_2 hf32_3 hf32_4 hf32_5 hf32_6 hx32_0 hx32_1 hx32_2 hx32_3 hx32_4 hx32_5 hx32_6 hx589_0 hx590_0 hx590_1 hx590_2 hx590_3 hx590_4 hx590_5 hx590_6 hHeld ⊢
       refine pu 0 75 HT_ (h := ?_)
       refine pu 1 76 HT_ (h := ?_)
       refine pu 2 77 HT_ (h := ?_)
       refine pu 3 78 HT_ (h := ?_)
       refine pu 8 83 HT_ (h := ?_)
       refine pu 9 84 HT_ (h := ?_)
       refine pu 10 85 HT_ (h := ?_)
       refine pu 11 86 HT_ (h := ?_)
       refine tk 4 79 HT_ HW_ hHeld (hy := by rintro w' ⟨s0, s1, s2, s3, s4, s5, s6, s7⟩; go_simp; with_reducible rfl) (h := ?_)
       refine pu 5 80 HT_ (h := ?_)
       refine pu 6 81 HT_ (h := ?_)
       refine tk 7 82 HT_ HW_ hHeld (hy := by rintro w' ⟨s0, s1, s2, s3, s4, s5, s6, s7⟩; go_simp; with_reducible rfl) (h := ?_)
       refine pu 12 87 HT_ (h := ?_)
       refine pu 13 88 HT_ (h := ?_)
       refine pu 14 89 HT_ (h := ?_)
       refine last_ (i := 15) (N := none) #[true, true, true, true, true, true, true, true, true, true, true, true, true, true, true, true] rfl rfl (one_of HT_.out (by kernel_rfl)) (by decide) (fun K hK => ?_)
       refine skip_ (w1 := ?_) (by rfl) rfl ?_ ?_
       rotate_left
       ·go_simp
        rfl
       refine hK.out _ _ ?_
       clear hK K
       refine done_ (done_of HT_.out (by kernel_rfl)) ?_
       try go_wp2
       go_roundg k2
       case measure => have := HJ5.out; have := HK2.out; omega
       case rel => exact ⟨(y591), (wrap64 (x15_2 + 1)), (by first | rfl | simp [*]), H', ⟨by have := HJ5.out; have := HK2.out; omega⟩, ⟨by (with_reducible repeat (first | apply Kd.S_alloc | apply Kd.S_drewN | apply Kd.S_drew)); exact HQ47.out⟩, ⟨by (with_reducible repeat (first | apply Kd.R_alloc | apply Kd.R_drewN | apply Kd.R_drew)); exact Kd.R_mono (Kd.R_far (p := ⟨go32, ((rd t586 x15_2) : Int).toNat * 7 + 1, none⟩) (Kd.R_types HO_14.out GG32.out (by decide)) (fun _ hk => hk.2) (.int .i64 (wrap64 (((rT x12_2 (rd t586 x15_2)).f1) + (wrap64 (Int.tdiv ji18 (t586.length : Int))))))) (fun _ hk => trivial)⟩, ⟨by repeat (first | (with_reducible first | exact HB.out | apply below_alloc | apply pw_below_drewN | apply below_drew1 | refine below_set ?_ GB32.out) | exact HB.out)⟩⟩
      rw [if_pos c34] at H
      have c34b0 := decide_eq_true c34
      have hm9 : Int.tmod ji18 (t586.length : Int) = ji18 % (t586.length : Int) := Int.tmod_eq_emod_of_nonneg (by rw [← hji18_]; split <;> omega)
      have c34b9 := c34b0
      rw [hm9] at c34b9
      clear hm9
      clear c34
      obtain ⟨y594, hy594⟩ : ∃ y_ : List (S33), y_ = (y591.set ((rd t586 x15_2) : Int).toNat (⟨(rT y591 (rd t586 x15_2)).f0, wrap64 ((wrap64 (((rT x12_2 (rd t586 x15_2)).f1) + (wrap64 (Int.tdiv ji18 (t586.length : Int))))) + 1), (rT y591 (rd t586 x15_2)).f2, (rT y591 (rd t586 x15_2)).f3, (rT y591 (rd t586 x15_2)).f4, (rT y591 (rd t586 x15_2)).f5, (rT y591 (rd t586 x15_2)).f6⟩ : S33)) := ⟨_, rfl⟩
      replace H : (r_Adjust.l0 k2 true y594 ji18 t586 (wrap64 (x15_2 + 1))) = some (r1, r2, r3) := by first | (rw [hy594]; with_reducible exact H) | (have H2_ := (Option.bind_some _ _).symm.trans H; rw [hy594]; with_reducible exact H2_) | (have H2_ := (Option.bind_some _ _).symm.trans H; with_reducible exact H2_) | with_reducible exact H | (rw [hy594]; exact H) | exact H
      have Ny594 := o_ hy594
      clear hy594
      have H' := o_ H
      clear H
      obtain ⟨Ao37, co37, eo37⟩ := Kd.R_slice HO_14.out
      subst eo37
      try go_wp2
      have n0_ := o_ (Kd.S_drew HO_12.out)
      have n1_ := o_ (Kd.R_drew HO_14.out)
      have n2_ := o_ (below_drew1 HB.out)
      clear HO_12
      clear HO_14
      clear HB
      have HO_12 := n0_
      have HO_14 := n1_
      have HB := n2_
      clear n0_ n1_ n2_
      have p589 : 0 ≤ (x15_2 : Int) := oa
      have q589 : x15_2 < (t586.length : Int) := oa
      obtain ⟨ad589, e589, hx589_0⟩ := Kd.at_int (Kd.R_reads' HO_14.out).2.2 x15_2 p589 q589
      cases e589
      replace p589 := eq_true p589
      replace q589 := eq_true q589
      obtain ⟨Ao39, co39, eo39⟩ := Kd.S_slice HO_12.out
      (first | subst eo39 | (injection eo39 with f1_ f2_ f3_; have f4_ := f1_.symm; have f5_ := f3_.symm; clear f1_ f2_ f3_; subst f4_; subst f5_))
      have p590 : 0 ≤ ((rd t586 x15_2) : Int) := oa
      have q590 : (rd t586 x15_2) < (x12_2.length : Int) := oa
      obtain ⟨ad590, A590_6, c590_6, e590, hx590_0, hx590_1, hx590_2, hx590_3, hx590_4, hx590_5, hx590_6, hl590_6, hi590_6⟩ := aT (Kd.S_reads' HO_12.out).2.2 (rd t586 x15_2) p590 q590
      cases e590
      obtain ⟨ce590, hce590, hMe590, hcc590⟩ := Kd.S_get HO_12.out z33 (rd t586 x15_2) p590 (by first | exact q590 | exact oa | (have e_ := (Kd.S_reads' HO_12.out).1; omega))
      obtain ⟨ve590_6, rfl, ge590_6⟩ := k33_openM hMe590
      have hv590_6 := hcc590 6 _ rfl
      rw [add_field _ _ 6 (by omega)] at hv590_6
      replace hv590_6 := Option.some.inj (hv590_6.symm.trans hx590_6)
      rw [hv590_6] at ge590_6
      have HL590_6 := o_ (show Kd.R (Kd.int .i64) 3 _ _ _ _ ((rT x12_2 (rd t586 x15_2)).f6) from ge590_6)
      clear hv590_6 ge590_6
      clear hcc590 hce590
      have HR590_6 := o_ hi590_6
      have HC590_6 := o_ hl590_6
      clear hi590_6 hl590_6
      replace p590 := eq_true p590
      replace q590 := eq_true q590
      have p32 : 0 ≤ ((rd t586 x15_2) : Int) := oa
      have q32 : ((rd t586 x15_2) : Int) < ((x12_2.length : Int) : Int) := oa
      obtain ⟨go32, co32, eo32, gb32, gl32, cl32, HG32⟩ := Kd.S_form HO_12.out (by omega)
      (first | cases eo32 | (injection eo32 with ea_ en_ ec_; (first | subst ea_ | (injection ea_ with ea_; subst ea_)); subst ec_; clear en_))
      have GB32 := o_ gb32
      have GG32 := o_ HG32
      clear gb32 gl32 HG32
      (first | simp only [add_plain] at hx590_0 | skip)
      (first | simp only [add_plain] at hx590_1 | skip)
      (first | simp only [add_plain] at hx590_2 | skip)
      (first | simp only [add_plain] at hx590_3 | skip)
      (first | simp only [add_plain] at hx590_4 | skip)
      (first | simp only [add_plain] at hx590_5 | skip)
      (first | simp only [add_plain] at hx590_6 | skip)
      obtain ⟨_, ce32, hcl32, hM32, hcc32, hfr32, _, _⟩ := Kd.S_elem HO_12.out z33 ((rd t586 x15_2) : Int) p32 q32
      obtain ⟨ve32_6, rfl, ge32_6⟩ := k33_openM hM32
      have hx32_0 : World.cell? _ ⟨go32, ((rd t586 x15_2) : Int).toNat * 7, none⟩ = some (.int .i64 ((rT x12_2 (rd t586 x15_2)).f0)) := hcc32 0 _ rfl
      have hx32_1 : World.cell? _ ⟨go32, ((rd t586 x15_2) : Int).toNat * 7 + 1, none⟩ = some (.int .i64 ((rT x12_2 (rd t586 x15_2)).f1)) := hcc32 1 _ rfl
      have hx32_2 : World.cell? _ ⟨go32, ((rd t586 x15_2) : Int).toNat * 7 + 2, none⟩ = some (.int .i64 ((rT x12_2 (rd t586 x15_2)).f2)) := hcc32 2 _ rfl
      have hx32_3 : World.cell? _ ⟨go32, ((rd t586 x15_2) : Int).toNat * 7 + 3, none⟩ = some (.int .i64 ((rT x12_2 (rd t586 x15_2)).f3)) := hcc32 3 _ rfl
      have hx32_4 : World.cell? _ ⟨go32, ((rd t586 x15_2) : Int).toNat * 7 + 4, none⟩ = some (.string ((rT x12_2 (rd t586 x15_2)).f4)) := hcc32 4 _ rfl
      have hx32_5 : World.cell? _ ⟨go32, ((rd t586 x15_2) : Int).toNat * 7 + 5, none⟩ = some (.string ((rT x12_2 (rd t586 x15_2)).f5)) := hcc32 5 _ rfl
      have hx32_6 : World.cell? _ ⟨go32, ((rd t586 x15_2) : Int).toNat * 7 + 6, none⟩ = some (ve32_6) := hcc32 6 _ rfl
      have hf32_0 : World.frozen? _ ⟨go32, ((rd t586 x15_2) : Int).toNat * 7, none⟩ = false := hfr32 0
      have hf32_1 : World.frozen? _ ⟨go32, ((rd t586 x15_2) : Int).toNat * 7 + 1, none⟩ = false := hfr32 1
      have hf32_2 : World.frozen? _ ⟨go32, ((rd t586 x15_2) : Int).toNat * 7 + 2, none⟩ = false := hfr32 2
      have hf32_3 : World.frozen? _ ⟨go32, ((rd t586 x15_2) : Int).toNat * 7 + 3, none⟩ = false := hfr32 3
      have hf32_4 : World.frozen? _ ⟨go32, ((rd t586 x15_2) : Int).toNat * 7 + 4, none⟩ = false := hfr32 4
      have hf32_5 : World.frozen? _ ⟨go32, ((rd t586 x15_2) : Int).toNat * 7 + 5, none⟩ = false := hfr32 5
      have hf32_6 : World.frozen? _ ⟨go32, ((rd t586 x15_2) : Int).toNat * 7 + 6, none⟩ = false := hfr32 6
      clear hcl32 hcc32 hfr32 hM32
      replace p32 := eq_true p32
      replace q32 := eq_true q32
      have HX40 := o_ (show Kd.S k33 33 _ w.heap.size (fun k_ => ((fun k_ => some k_ ≠ (.slice (some ad589) t586.length co37 : Value).ownBlock)) k_ ∧ ¬ (fun _ => False) k_) (.slice (some ⟨go32, 0, none⟩) x12_2.length co39) x12_2 from (by exact Kd.S_mono HO_12.out (fun k_ hk => ⟨hk, fun e_ => e_⟩)))
      obtain ⟨oki40, ce40, hcl40, hM40, hcc40, hfr40, hoki40, hH40⟩ := Kd.S_elem HX40.out z33 ((rd t586 x15_2) : Int) (oa) (by have h_ : ((rd t586 x15_2) : Int) < ((x12_2.length : Int) : Int) := oa; first | exact h_ | (have e_ := (Kd.S_reads' HO_12.out).1; omega) | simpa using h_)
      obtain ⟨ve40_6, rfl, ge40_6⟩ := k33_openM hM40
      have HP40 := (Kd.S_seg hH40 (oa) (by have h_ : ((rd t586 x15_2) : Int) < ((x12_2.length : Int) : Int) := oa; first | exact h_ | (have e_ := (Kd.S_reads' HO_12.out).1; omega) | simpa using h_) (seg := [.int .i64 (wrap64 (((rT x12_2 (rd t586 x15_2)).f1) + (wrap64 (Int.tdiv ji18 (t586.length : Int)))))]) (j := 1) (show 2 ≤ 7 from by decide) (x' := (⟨(rT x12_2 (rd t586 x15_2)).f0, wrap64 (((rT x12_2 (rd t586 x15_2)).f1) + (wrap64 (Int.tdiv ji18 (t586.length : Int)))), (rT x12_2 (rd t586 x15_2)).f2, (rT x12_2 (rd t586 x15_2)).f3, (rT x12_2 (rd t586 x15_2)).f4, (rT x12_2 (rd t586 x15_2)).f5, (rT x12_2 (rd t586 x15_2)).f6⟩ : S33)) (k33_mkM _ _ _ (⟨(rT x12_2 (rd t586 x15_2)).f0, wrap64 (((rT x12_2 (rd t586 x15_2)).f1) + (wrap64 (Int.tdiv ji18 (t586.length : Int)))), (rT x12_2 (rd t586 x15_2)).f2, (rT x12_2 (rd t586 x15_2)).f3, (rT x12_2 (rd t586 x15_2)).f4, (rT x12_2 (rd t586 x15_2)).f5, (rT x12_2 (rd t586 x15_2)).f6⟩ : S33) ge40_6) (fun _ hk => Or.inl hk) (fun _ hk => hk.elim)).1
      rw [← Ny591.out] at HP40
      have HQ40 := o_ HP40
      clear hcl40 hcc40 hfr40 hM40 HP40
      refine start_ (n := 16) (S := fun w' => w'.cell? (ad589.add (x15_2).toNat) = some (.int .i64 (rd t586 x15_2)) ∧ w'.cell? ⟨go32, ((rd t586 x15_2) : Int).toNat * 7, none⟩ = some (.int .i64 ((rT x12_2 (rd t586 x15_2)).f0)) ∧ w'.cell? ⟨go32, ((rd t586 x15_2) : Int).toNat * 7 + 1, none⟩ = some (.int .i64 ((rT x12_2 (rd t586 x15_2)).f1)) ∧ w'.cell? ⟨go32, ((rd t586 x15_2) : Int).toNat * 7 + 2, none⟩ = some (.int .i64 ((rT x12_2 (rd t586 x15_2)).f2)) ∧ w'.cell? ⟨go32, ((rd t586 x15_2) : Int).toNat * 7 + 3, none⟩ = some (.int .i64 ((rT x12_2 (rd t586 x15_2)).f3)) ∧ w'.cell? ⟨go32, ((rd t586 x15_2) : Int).toNat * 7 + 4, none⟩ = some (.string ((rT x12_2 (rd t586 x15_2)).f4)) ∧ w'.cell? ⟨go32, ((rd t586 x15_2) : Int).toNat * 7 + 5, none⟩ = some (.string ((rT x12_2 (rd t586 x15_2)).f5)) ∧ w'.cell? ⟨go32, ((rd t586 x15_2) : Int).toNat * 7 + 6, none⟩ = some (.slice A590_6 ((rT x12_2 (rd t586 x15_2)).f6).length c590_6)) (ds := [15]) #[false, false, false, false, false, false, false, false, false, false, false, false, false, false, false, false] (by kernel_rfl) rfl rfl ⟨hx589_0, hx590_0, hx590_1, hx590_2, hx590_3, hx590_4, hx590_5, hx590_6⟩ (fun hHeld => ?_); refine with_tabW r_Adjust.tab18 r_Adjust.bits18 (fun HT_ HW_ => ?_)
      generalize wr.drew = w38 at HO_12 HO_14 HB GG32 HL590_6 HQ40 HR590_6 hf32_0 hf32_1 hf32_2 hf32_3 hf32_4 hf32_5 hf32_6 hx32_0 hx32_1 hx32_2 hx32_3 hx32_4 hx32_5 hx32_6 hx589_0 hx590_0 hx590_1 hx590_2 hx590_3 hx590_4 hx590_5 hx590_6 hHeld ⊢
      refine pu 0 75 HT_ (h := ?_)
      refine pu 1 76 HT_ (h := ?_)
      refine pu 2 77 HT_ (h := ?_)
      refine pu 3 78 HT_ (h := ?_)
      refine pu 8 83 HT_ (h := ?_)
      refine pu 9 84 HT_ (h := ?_)
      refine pu 10 85 HT_ (h := ?_)
      refine pu 11 86 HT_ (h := ?_)
      refine tk 4 79 HT_ HW_ hHeld (hy := by rintro w' ⟨s0, s1, s2, s3, s4, s5, s6, s7⟩; go_simp; with_reducible rfl) (h := ?_)
      refine pu 5 80 HT_ (h := ?_)
      refine pu 6 81 HT_ (h := ?_)
      refine tk 7 82 HT_ HW_ hHeld (hy := by rintro w' ⟨s0, s1, s2, s3, s4, s5, s6, s7⟩; go_simp; with_reducible rfl) (h := ?_)
      refine pu 12 87 HT_ (h := ?_)
      refine pu 13 88 HT_ (h := ?_)
      refine pu 14 89 HT_ (h := ?_)
      refine last_ (i := 15) (N := none) #[true, true, true, true, true, true, true, true, true, true, true, true, true, true, true, true] rfl rfl (one_of HT_.out (by kernel_rfl)) (by decide) (fun K hK => ?_)
      refine skip_ (w1 := ?_) (by rfl) rfl ?_ ?_
      rotate_left
      ·go_simp
       rfl
      refine hK.out _ _ ?_
      clear hK K
      refine done_ (done_of HT_.out (by kernel_rfl)) ?_
      have n0_ : As (Kd.S k33 33 (w38.setCell ⟨go32, ((rd t586 x15_2) : Int).toNat * 7 + 1, none⟩ (.int .i64 (wrap64 (((rT x12_2 (rd t586 x15_2)).f1) + (wrap64 (Int.tdiv ji18 (t586.length : Int))))))) w.heap.size (fun k_ => some k_ ≠ (.slice (some ad589) t586.length co37 : Value).ownBlock) (.slice (some ⟨go32, 0, none⟩) x12_2.length co39) y591) := ⟨by (with_reducible repeat (first | apply Kd.S_alloc | apply Kd.S_drewN | apply Kd.S_drew)); exact HQ40.out⟩
      have n1_ : As (Kd.R (Kd.int .i64) 3 (w38.setCell ⟨go32, ((rd t586 x15_2) : Int).toNat * 7 + 1, none⟩ (.int .i64 (wrap64 (((rT x12_2 (rd t586 x15_2)).f1) + (wrap64 (Int.tdiv ji18 (t586.length : Int))))))) w.heap.size (fun _ => True) (.slice (some ad589) t586.length co37) t586) := ⟨by (with_reducible repeat (first | apply Kd.R_alloc | apply Kd.R_drewN | apply Kd.R_drew)); exact Kd.R_mono (Kd.R_far (p := ⟨go32, ((rd t586 x15_2) : Int).toNat * 7 + 1, none⟩) (Kd.R_types HO_14.out GG32.out (by decide)) (fun _ hk => hk.2) (.int .i64 (wrap64 (((rT x12_2 (rd t586 x15_2)).f1) + (wrap64 (Int.tdiv ji18 (t586.length : Int))))))) (fun _ hk => trivial)⟩
      have n2_ : As (Kd.R (Kd.int .i64) 3 (w38.setCell ⟨go32, ((rd t586 x15_2) : Int).toNat * 7 + 1, none⟩ (.int .i64 (wrap64 (((rT x12_2 (rd t586 x15_2)).f1) + (wrap64 (Int.tdiv ji18 (t586.length : Int))))))) w.heap.size (fun k_ => some k_ ≠ (.slice (some ⟨go32, 0, none⟩) x12_2.length co39 : Value).ownBlock ∧ some k_ ≠ (.slice (some ad589) t586.length co37 : Value).ownBlock) (.slice A590_6 ((rT x12_2 (rd t586 x15_2)).f6).length c590_6) ((rT x12_2 (rd t586 x15_2)).f6)) := ⟨by (with_reducible repeat (first | apply Kd.R_alloc | apply Kd.R_drewN | apply Kd.R_drew)); exact Kd.R_mono (Kd.R_far (p := ⟨go32, ((rd t586 x15_2) : Int).toNat * 7 + 1, none⟩) (Kd.R_types HL590_6.out GG32.out (by decide)) (fun _ hk => hk.2) (.int .i64 (wrap64 (((rT x12_2 (rd t586 x15_2)).f1) + (wrap64 (Int.tdiv ji18 (t586.length : Int))))))) (fun _ hk => ⟨hk.1.2, hk.1.1⟩)⟩
      have n3_ : As (Below w.heap.size w (w38.setCell ⟨go32, ((rd t586 x15_2) : Int).toNat * 7 + 1, none⟩ (.int .i64 (wrap64 (((rT x12_2 (rd t586 x15_2)).f1) + (wrap64 (Int.tdiv ji18 (t586.length : Int)))))))) := ⟨by repeat (first | (with_reducible first | exact HB.out | apply below_alloc | apply pw_below_drewN | apply below_drew1 | refine below_set ?_ GB32.out) | exact HB.out)⟩
      (try clear HO_12)
      (try clear HO_14)
      (try clear HL590_6)
      (try clear HB)
      generalize (w38.setCell ⟨go32, ((rd t586 x15_2) : Int).toNat * 7 + 1, none⟩ (.int .i64 (wrap64 (((rT x12_2 (rd t586 x15_2)).f1) + (wrap64 (Int.tdiv ji18 (t586.length : Int))))))) = w41 at n0_ n1_ n2_ n3_ ⊢
      have HO_12 := n0_
      have HO_14 := n1_
      have HL590_6 := n2_
      have HB := n3_
      clear n0_ n1_ n2_ n3_
      have p592 : 0 ≤ (x15_2 : Int) := oa
      have q592 : x15_2 < (t586.length : Int) := oa
      obtain ⟨ad592, e592, hx592_0⟩ := Kd.at_int (Kd.R_reads' HO_14.out).2.2 x15_2 p592 q592
      obtain rfl : ad589 = ad592 := (by injection e592)
      replace p592 := eq_true p592
      replace q592 := eq_true q592
      have p35 : 0 ≤ ((rd t586 x15_2) : Int) := oa
      have q35 : ((rd t586 x15_2) : Int) < ((x12_2.length : Int) : Int) := oa
      replace p35 := eq_true p35
      replace q35 := eq_true q35
      have p36 : 0 ≤ ((rd t586 x15_2) : Int) := oa
      have q36 : ((rd t586 x15_2) : Int) < ((x12_2.length : Int) : Int) := oa
      replace p36 := eq_true p36
      replace q36 := eq_true q36
      have HX42 := o_ (show Kd.S k33 33 w41 w.heap.size (fun k_ => ((fun k_ => some k_ ≠ (.slice (some ad589) t586.length co37 : Value).ownBlock)) k_ ∧ ¬ ((fun _ => False)) k_) (.slice (some ⟨go32, 0, none⟩) x12_2.length co39) y591 from (by (with_reducible repeat (first | apply Kd.S_alloc | apply Kd.S_drewN | apply Kd.S_drew)); exact Kd.S_mono HO_12.out (fun k_ hk => ⟨hk, fun e_ => e_⟩)))
      obtain ⟨oki42, ce42, hcl42, hM42, hcc42, hfr42, hoki42, hH42⟩ := Kd.S_elem HX42.out z33 ((rd t586 x15_2) : Int) (oa) (by have h_ : ((rd t586 x15_2) : Int) < ((x12_2.length : Int) : Int) := oa; first | exact h_ | (have e_ := (Kd.S_reads' HO_12.out).1; omega) | simpa using h_)
      obtain ⟨ve42_6, rfl, ge42_6⟩ := k33_openM hM42
      have HP42 := Kd.S_seg hH42 (oa) (by have h_ : ((rd t586 x15_2) : Int) < ((x12_2.length : Int) : Int) := oa; first | exact h_ | (have e_ := (Kd.S_reads' HO_12.out).1; omega) | simpa using h_) (seg := [.int .i64 (wrap64 ((wrap64 (((rT x12_2 (rd t586 x15_2)).f1) + (wrap64 (Int.tdiv ji18 (t586.length : Int))))) + 1))]) (j := 1) (show 2 ≤ 7 from by decide) (x' := (⟨(rT y591 (rd t586 x15_2)).f0, wrap64 ((wrap64 (((rT x12_2 (rd t586 x15_2)).f1) + (wrap64 (Int.tdiv ji18 (t586.length : Int))))) + 1), (rT y591 (rd t586 x15_2)).f2, (rT y591 (rd t586 x15_2)).f3, (rT y591 (rd t586 x15_2)).f4, (rT y591 (rd t586 x15_2)).f5, (rT y591 (rd t586 x15_2)).f6⟩ : S33)) (k33_mkM _ _ _ (⟨(rT y591 (rd t586 x15_2)).f0, wrap64 ((wrap64 (((rT x12_2 (rd t586 x15_2)).f1) + (wrap64 (Int.tdiv ji18 (t586.length : Int))))) + 1), (rT y591 (rd t586 x15_2)).f2, (rT y591 (rd t586 x15_2)).f3, (rT y591 (rd t586 x15_2)).f4, (rT y591 (rd t586 x15_2)).f5, (rT y591 (rd t586 x15_2)).f6⟩ : S33) (Kd.R_mono ge42_6 (fun _ h_ => Or.inl h_))) (fun _ hk => hk) (fun k_ hk_ => hk_.elim)
      have hx42_1 := hcc42 1 _ rfl
      have hv42 : (y591.getD (rd t586 x15_2).toNat z33).f1 = wrap64 (((rT x12_2 (rd t586 x15_2)).f1) + (wrap64 (Int.tdiv ji18 (t586.length : Int)))) := by rw [Ny591.out, List.getD_eq_getElem?_getD, List.getElem?_set_self (by have a_ : 0 ≤ ((rd t586 x15_2) : Int) := oa; have b_ : ((rd t586 x15_2) : Int) < ((x12_2.length : Int) : Int) := oa; omega)]; rfl
      rw [hv42] at hx42_1
      clear hv42
      (try simp only [show (k33).sz = 7 from rfl, Nat.mul_one, Nat.add_zero] at hx42_1)
      have hf42_1 := hfr42 1
      (try simp only [show (k33).sz = 7 from rfl, Nat.mul_one, Nat.add_zero] at hf42_1)
      clear hcl42 hcc42 hfr42 hM42 hoki42 hH42
      try go_wp2_with (first | ((with_reducible refine gate_store (t := 3) (p := 122) rfl ?_); refine store_event (t := 3) (p := 122) (v := ?vo_w43) (w1 := (w41.setCell ⟨go32, ((rd t586 x15_2) : Int).toNat * 7 + 1, none⟩ (.int .i64 (wrap64 ((wrap64 (((rT x12_2 (rd t586 x15_2)).f1) + (wrap64 (Int.tdiv ji18 (t586.length : Int))))) + 1))))) ?hg ?ho ?hn ?hr ?_; (case ho => rfl); (case hg => rfl); (case hn => rfl); (case hr => first | (go_simp; done) | (go_simp; rfl)); intro w43 hw; have hg : w41.grownBy w43 (some go32) := (by rw [hw]; exact HP42.2); have hp_ : Kd.S k33 33 w43 w.heap.size (fun k_ => some k_ ≠ (.slice (some ad589) t586.length co37 : Value).ownBlock) (.slice (some ⟨go32, 0, none⟩) x12_2.length co39) y594 := (by rw [hw, Ny594.out]; exact HP42.1); clear HP42; have n0_ := o_ (hp_); have n1_ := o_ (Kd.R_over' (v := (.slice (some ⟨go32, 0, none⟩) x12_2.length co39)) (by (with_reducible repeat (first | apply Kd.R_alloc | apply Kd.R_drewN | apply Kd.R_drew)); exact HO_14.out) (Kd.S_typed HO_12.out) (by decide) hg); have n2_ := o_ (Kd.R_after (v := (.slice (some ⟨go32, 0, none⟩) x12_2.length co39)) (v1 := (.slice (some ⟨go32, 0, none⟩) x12_2.length co39)) (ok := (fun k_ => some k_ ≠ (.slice (some ad589) t586.length co37 : Value).ownBlock)) (by (with_reducible repeat (first | apply Kd.R_alloc | apply Kd.R_drewN | apply Kd.R_drew)); exact Kd.R_mono HL590_6.out (fun _ hk => ⟨hk.2, hk.1⟩)) hg (.inl rfl)); have n3_ := o_ ((by rw [hw]; exact below_set (HB.out) GB32.out : Below w.heap.size w w43)); clear HO_12; clear HO_14; clear HL590_6; clear HB; have HO_12 := n0_; have HO_14 := n1_; have HL590_6 := n2_; have HB := n3_; clear n0_ n1_ n2_ n3_; clear hg hw hp_))
      go_roundg k2
      case measure => have := HJ5.out; have := HK2.out; omega
      case rel => exact ⟨(y594), (wrap64 (x15_2 + 1)), (by first | rfl | simp [*]), H', ⟨by have := HJ5.out; have := HK2.out; omega⟩, ⟨by (with_reducible repeat (first | apply Kd.S_alloc | apply Kd.S_drewN | apply Kd.S_drew)); exact HO_12.out⟩, ⟨by (with_reducible repeat (first | apply Kd.R_alloc | apply Kd.R_drewN | apply Kd.R_drew)); exact HO_14.out⟩, ⟨by repeat (first | (with_reducible first | exact HB.out | apply below_alloc | apply pw_below_drewN | apply below_drew1) | exact HB.out)⟩⟩
     replace c33 := Bool.eq_false_iff.mpr c33
     subst c33
     have H1 : (if x15_2 ≥ (wrap64 ((t586.length : Int) - (Int.tmod ji18 (t586.length : Int)))) then (r_Adjust.l0 k2 false (y591.set ((rd t586 x15_2) : Int).toNat (⟨(rT y591 (rd t586 x15_2)).f0, wrap64 ((wrap64 (((rT x12_2 (rd t586 x15_2)).f1) + (wrap64 (Int.tdiv ji18 (t586.length : Int))))) + 1), (rT y591 (rd t586 x15_2)).f2, (rT y591 (rd t586 x15_2)).f3, (rT y591 (rd t586 x15_2)).f4, (rT y591 (rd t586 x15_2)).f5, (rT y591 (rd t586 x15_2)).f6⟩ : S33)) ji18 t586 (wrap64 (x15_2 + 1))) else (r_Adjust.l0 k2 false y591 ji18 t586 (wrap64 (x15_2 + 1)))) = some (r1, r2, r3) := by rw [if_neg (show ¬ (false = true) by decide)] at H; exact H
     clear H
     have H := H1
     clear H1
     by_cases c48 : x15_2 ≥ (wrap64 ((t586.length : Int) - (Int.tmod ji18 (t586.length : Int))))
     rotate_left
     ·rw [if_neg c48] at H
      have c48b0 : decide ((wrap64 ((t586.length : Int) - (Int.tmod ji18 (t586.length : Int)))) ≤ x15_2) = false := decide_eq_false c48
      have hm9 : Int.tmod ji18 (t586.length : Int) = ji18 % (t586.length : Int) := Int.tmod_eq_emod_of_nonneg (by rw [← hji18_]; split <;> omega)
      have c48b9 := c48b0
      rw [hm9] at c48b9
      clear hm9
      clear c48
      have H' := o_ H
      clear H
      obtain ⟨Ao58, co58, eo58⟩ := Kd.R_slice HO_14.out
      subst eo58
      try go_wp2
      have n0_ := o_ (Kd.S_drew HO_12.out)
      have n1_ := o_ (Kd.R_drew HO_14.out)
      have n2_ := o_ (below_drew1 HB.out)
      clear HO_12
      clear HO_14
      clear HB
      have HO_12 := n0_
      have HO_14 := n1_
      have HB := n2_
      clear n0_ n1_ n2_
      have p589 : 0 ≤ (x15_2 : Int) := oa
      have q589 : x15_2 < (t586.length : Int) := oa
      obtain ⟨ad589, e589, hx589_0⟩ := Kd.at_int (Kd.R_reads' HO_14.out).2.2 x15_2 p589 q589
      cases e589
      replace p589 := eq_true p589
      replace q589 := eq_true q589
      obtain ⟨Ao60, co60, eo60⟩ := Kd.S_slice HO_12.out
      (first | subst eo60 | (injection eo60 with f1_ f2_ f3_; have f4_ := f1_.symm; have f5_ := f3_.symm; clear f1_ f2_ f3_; subst f4_; subst f5_))
      have p590 : 0 ≤ ((rd t586 x15_2) : Int) := oa
      have q590 : (rd t586 x15_2) < (x12_2.length : Int) := oa
      obtain ⟨ad590, A590_6, c590_6, e590, hx590_0, hx590_1, hx590_2, hx590_3, hx590_4, hx590_5, hx590_6, hl590_6, hi590_6⟩ := aT (Kd.S_reads' HO_12.out).2.2 (rd t586 x15_2) p590 q590
      cases e590
      obtain ⟨ce590, hce590, hMe590, hcc590⟩ := Kd.S_get HO_12.out z33 (rd t586 x15_2) p590 (by first | exact q590 | exact oa | (have e_ := (Kd.S_reads' HO_12.out).1; omega))
      obtain ⟨ve590_6, rfl, ge590_6⟩ := k33_openM hMe590
      have hv590_6 := hcc590 6 _ rfl
      rw [add_field _ _ 6 (by omega)] at hv590_6
      replace hv590_6 := Option.some.inj (hv590_6.symm.trans hx590_6)
      rw [hv590_6] at ge590_6
      have HL590_6 := o_ (show Kd.R (Kd.int .i64) 3 _ _ _ _ ((rT x12_2 (rd t586 x15_2)).f6) from ge590_6)
      clear hv590_6 ge590_6
      clear hcc590 hce590
      have HR590_6 := o_ hi590_6
      have HC590_6 := o_ hl590_6
      clear hi590_6 hl590_6
      replace p590 := eq_true p590
      replace q590 := eq_true q590
      have p32 : 0 ≤ ((rd t586 x15_2) : Int) := oa
      have q32 : ((rd t586 x15_2) : Int) < ((x12_2.length : Int) : Int) := oa
      obtain ⟨go32, co32, eo32, gb32, gl32, cl32, HG32⟩ := Kd.S_form HO_12.out (by omega)
      (first | cases eo32 | (injection eo32 with ea_ en_ ec_; (first | subst ea_ | (injection ea_ with ea_; subst ea_)); subst ec_; clear en_))
      have GB32 := o_ gb32
      have GG32 := o_ HG32
      clear gb32 gl32 HG32
      (first | simp only [add_plain] at hx590_0 | skip)
      (first | simp only [add_plain] at hx590_1 | skip)
      (first | simp only [add_plain] at hx590_2 | skip)
      (first | simp only [add_plain] at hx590_3 | skip)
      (first | simp only [add_plain] at hx590_4 | skip)
      (first | simp only [add_plain] at hx590_5 | skip)
      (first | simp only [add_plain] at hx590_6 | skip)
      obtain ⟨_, ce32, hcl32, hM32, hcc32, hfr32, _, _⟩ := Kd.S_elem HO_12.out z33 ((rd t586 x15_2) : Int) p32 q32
      obtain ⟨ve32_6, rfl, ge32_6⟩ := k33_openM hM32
      have hx32_0 : World.cell? _ ⟨go32, ((rd t586 x15_2) : Int).toNat * 7, none⟩ = some (.int .i64 ((rT x12_2 (rd t586 x15_2)).f0)) := hcc32 0 _ rfl
      have hx32_1 : World.cell? _ ⟨go32, ((rd t586 x15_2) : Int).toNat * 7 + 1, none⟩ = some (.int .i64 ((rT x12_2 (rd t586 x15_2)).f1)) := hcc32 1 _ rfl
      have hx32_2 : World.cell? _ ⟨go32, ((rd t586 x15_2) : Int).toNat * 7 + 2, none⟩ = some (.int .i64 ((rT x12_2 (rd t586 x15_2)).f2)) := hcc32 2 _ rfl
      have hx32_3 : World.cell? _ ⟨go32, ((rd t586 x15_2) : Int).toNat * 7 + 3, none⟩ = some (.int .i64 ((rT x12_2 (rd t586 x15_2)).f3)) := hcc32 3 _ rfl
      have hx32_4 : World.cell? _ ⟨go32, ((rd t586 x15_2) : Int).toNat * 7 + 4, none⟩ = some (.string ((rT x12_2 (rd t586 x15_2)).f4)) := hcc32 4 _ rfl
      have hx32_5 : World.cell? _ ⟨go32, ((rd t586 x15_2) : Int).toNat * 7 + 5, none⟩ = some (.string ((rT x12_2 (rd t586 x15_2)).f5)) := hcc32 5 _ rfl
      have hx32_6 : World.cell? _ ⟨go32, ((rd t586 x15_2) : Int).toNat * 7 + 6, none⟩ = some (ve32_6) := hcc32 6 _ rfl
      have hf32_0 : World.frozen? _ ⟨go32, ((rd t586 x15_2) : Int).toNat * 7, none⟩ = false := hfr32 0
      have hf32_1 : World.frozen? _ ⟨go32, ((rd t586 x15_2) : Int).toNat * 7 + 1, none⟩ = false := hfr32 1
      have hf32_2 : World.frozen? _ ⟨go32, ((rd t586 x15_2) : Int).toNat * 7 + 2, none⟩ = false := hfr32 2
      have hf32_3 : World.frozen? _ ⟨go32, ((rd t586 x15_2) : Int).toNat * 7 + 3, none⟩ = false := hfr32 3
      have hf32_4 : World.frozen? _ ⟨go32, ((rd t586 x15_2) : Int).toNat * 7 + 4, none⟩ = false := hfr32 4
      have hf32_5 : World.frozen? _ ⟨go32, ((rd t586 x15_2) : Int).toNat * 7 + 5, none⟩ = false := hfr32 5
      have hf32_6 : World.frozen? _ ⟨go32, ((rd t586 x15_2) : Int).toNat * 7 + 6, none⟩ = false := hfr32 6
      clear hcl32 hcc32 hfr32 hM32
      replace p32 := eq_true p32
      replace q32 := eq_true q32
      have HX61 := o_ (show Kd.S k33 33 _ w.heap.size (fun k_ => ((fun k_ => some k_ ≠ (.slice (some ad589) t586.length co58 : Value).ownBlock)) k_ ∧ ¬ (fun _ => False) k_) (.slice (some ⟨go32, 0, none⟩) x12_2.length co60) x12_2 from (by exact Kd.S_mono HO_12.out (fun k_ hk => ⟨hk, fun e_ => e_⟩)))
      obtain ⟨oki61, ce61, hcl61, hM61, hcc61, hfr61, hoki61, hH61⟩ := Kd.S_elem HX61.out z33 ((rd t586 x15_2) : Int) (oa) (by have h_ : ((rd t586 x15_2) : Int) < ((x12_2.length : Int) : Int) := oa; first | exact h_ | (have e_ := (Kd.S_reads' HO_12.out).1; omega) | simpa using h_)
      obtain ⟨ve61_6, rfl, ge61_6⟩ := k33_openM hM61
      have HP61 := (Kd.S_seg hH61 (oa) (by have h_ : ((rd t586 x15_2) : Int) < ((x12_2.length : Int) : Int) := oa; first | exact h_ | (have e_ := (Kd.S_reads' HO_12.out).1; omega) | simpa using h_) (seg := [.int .i64 (wrap64 (((rT x12_2 (rd t586 x15_2)).f1) + (wrap64 (Int.tdiv ji18 (t586.length : Int)))))]) (j := 1) (show 2 ≤ 7 from by decide) (x' := (⟨(rT x12_2 (rd t586 x15_2)).f0, wrap64 (((rT x12_2 (rd t586 x15_2)).f1) + (wrap64 (Int.tdiv ji18 (t586.length : Int)))), (rT x12_2 (rd t586 x15_2)).f2, (rT x12_2 (rd t586 x15_2)).f3, (rT x12_2 (rd t586 x15_2)).f4, (rT x12_2 (rd t586 x15_2)).f5, (rT x12_2 (rd t586 x15_2)).f6⟩ : S33)) (k33_mkM _ _ _ (⟨(rT x12_2 (rd t586 x15_2)).f0, wrap64 (((rT x12_2 (rd t586 x15_2)).f1) + (wrap64 (Int.tdiv ji18 (t586.length : Int)))), (rT x12_2 (rd t586 x15_2)).f2, (rT x12_2 (rd t586 x15_2)).f3, (rT x12_2 (rd t586 x15_2)).f4, (rT x12_2 (rd t586 x15_2)).f5, (rT x12_2 (rd t586 x15_2)).f6⟩ : S33) ge61_6) (fun _ hk => Or.inl hk) (fun _ hk => hk.elim)).1
      rw [← Ny591.out] at HP61
      have HQ61 := o_ HP61
      clear hcl61 hcc61 hfr61 hM61 HP61
      refine start_ (n := 16) (S := fun w' => w'.cell? (ad589.add (x15_2).toNat) = some (.int .i64 (rd t586 x15_2)) ∧ w'.cell? ⟨go32, ((rd t586 x15_2) : Int).toNat * 7, none⟩ = some (.int .i64 ((rT x12_2 (rd t586 x15_2)).f0)) ∧ w'.cell? ⟨go32, ((rd t586 x15_2) : Int).toNat * 7 + 1, none⟩ = some (.int .i64 ((rT x12_2 (rd t586 x15_2)).f1)) ∧ w'.cell? ⟨go32, ((rd t586 x15_2) : Int).toNat * 7 + 2, none⟩ = some (.int .i64 ((rT x12_2 (rd t586 x15_2)).f2)) ∧ w'.cell? ⟨go32, ((rd t586 x15_2) : Int).toNat * 7 + 3, none⟩ = some (.int .i64 ((rT x12_2 (rd t586 x15_2)).f3)) ∧ w'.cell? ⟨go32, ((rd t586 x15_2) : Int).toNat * 7 + 4, none⟩ = some (.string ((rT x12_2 (rd t586 x15_2)).f4)) ∧ w'.cell? ⟨go32, ((rd t586 x15_2) : Int).toNat * 7 + 5, none⟩ = some (.string ((rT x12_2 (rd t586 x15_2)).f5)) ∧ w'.cell? ⟨go32, ((rd t586 x15_2) : Int).toNat * 7 + 6, none⟩ = some (.slice A590_6 ((rT x12_2 (rd t586 x15_2)).f6).length c590_6)) (ds := [15]) #[false, false, false, false, false, false, false, false, false, false, false, false, false, false, false, false] (by kernel_rfl) rfl rfl ⟨hx589_0, hx590_0, hx590_1, hx590_2, hx590_3, hx590_4, hx590_5, hx590_6⟩ (fun hHeld => ?_); refine with_tabW r_Adjust.tab18 r_Adjust.bits18 (fun HT_ HW_ => ?_)
      generalize wr.drew = w59 at HO_12 HO_14 HB GG32 HL590_6 HQ61 HR590_6 hf32_0 hf32_1 hf32_2 hf32_3 hf32_4 hf32_5 hf32_6 hx32_0 hx32_1 hx32_2 hx32_3 hx32_4 hx32_5 hx32_6 hx589_0 hx590_0 hx590_1 hx590_2 hx590_3 hx590_4 hx590_5 hx590_6 hHeld ⊢
      refine pu 0 75 HT_ (h := ?_)
      refine pu 1 76 HT_ (h := ?_)
      refine pu 2 77 HT_ (h := ?_)
      refine pu 3 78 HT_ (h := ?_)
      refine pu 8 83 HT_ (h := ?_)
      refine pu 9 84 HT_ (h := ?_)
      refine pu 10 85 HT_ (h := ?_)
      refine pu 11 86 HT_ (h := ?_)
      refine tk 4 79 HT_ HW_ hHeld (hy := by rintro w' ⟨s0, s1, s2, s3, s4, s5, s6, s7⟩; go_simp; with_reducible rfl) (h := ?_)
      refine pu 5 80 HT_ (h := ?_)
      refine pu 6 81 HT_ (h := ?_)
      refine tk 7 82 HT_ HW_ hHeld (hy := by rintro w' ⟨s0, s1, s2, s3, s4, s5, s6, s7⟩; go_simp; with_reducible rfl) (h := ?_)
      refine pu 12 87 HT_ (h := ?_)
      refine pu 13 88 HT_ (h := ?_)
      refine pu 14 89 HT_ (h := ?_)
      refine last_ (i := 15) (N := none) #[true, true, true, true, true, true, true, true, true, true, true, true, true, true, true, true] rfl rfl (one_of HT_.out (by kernel_rfl)) (by decide) (fun K hK => ?_)
      refine skip_ (w1 := ?_) (by rfl) rfl ?_ ?_
      rotate_left
      ·go_simp
       rfl
      refine hK.out _ _ ?_
      clear hK K
      refine done_ (done_of HT_.out (by kernel_rfl)) ?_
      try go_wp2
      go_roundg k2
      case measure => have := HJ5.out; have := HK2.out; omega
      case rel => exact ⟨(y591), (wrap64 (x15_2 + 1)), (by first | rfl | simp [*]), H', ⟨by have := HJ5.out; have := HK2.out; omega⟩, ⟨by (with_reducible repeat (first | apply Kd.S_alloc | apply Kd.S_drewN | apply Kd.S_drew)); exact HQ61.out⟩, ⟨by (with_reducible repeat (first | apply Kd.R_alloc | apply Kd.R_drewN | apply Kd.R_drew)); exact Kd.R_mono (Kd.R_far (p := ⟨go32, ((rd t586 x15_2) : Int).toNat * 7 + 1, none⟩) (Kd.R_types HO_14.out GG32.out (by decide)) (fun _ hk => hk.2) (.int .i64 (wrap64 (((rT x12_2 (rd t586 x15_2)).f1) + (wrap64 (Int.tdiv ji18 (t586.length : Int))))))) (fun _ hk => trivial)⟩, ⟨by repeat (first | (with_reducible first | exact HB.out | apply below_alloc | apply pw_below_drewN | apply below_drew1 | refine below_set ?_ GB32.out) | exact HB.out)⟩⟩
     rw [if_pos c48] at H
     have c48b0 : decide ((wrap64 ((t586.length : Int) - (Int.tmod ji18 (t586.length : Int)))) ≤ x15_2) = true := decide_eq_true c48
     have hm9 : Int.tmod ji18 (t586.length : Int) = ji18 % (t586.length : Int) := Int.tmod_eq_emod_of_nonneg (by rw [← hji18_]; split <;> omega)
     have c48b9 := c48b0
     rw [hm9] at c48b9
     clear hm9
     clear c48
     obtain ⟨y597, hy597⟩ : ∃ y_ : List (S33), y_ = (y591.set ((rd t586 x15_2) : Int).toNat (⟨(rT y591 (rd t586 x15_2)).f0, wrap64 ((wrap64 (((rT x12_2 (rd t586 x15_2)).f1) + (wrap64 (Int.tdiv ji18 (t586.length : Int))))) + 1), (rT y591 (rd t586 x15_2)).f2, (rT y591 (rd t586 x15_2)).f3, (rT y591 (rd t586 x15_2)).f4, (rT y591 (rd t586 x15_2)).f5, (rT y591 (rd t586 x15_2)).f6⟩ : S33)) := ⟨_, rfl⟩
     replace H : (r_Adjust.l0 k2 false y597 ji18 t586 (wrap64 (x15_2 + 1))) = some (r1, r2, r3) := by first | (rw [hy597]; with_reducible exact H) | (have H2_ := (Option.bind_some _ _).symm.trans H; rw [hy597]; with_reducible exact H2_) | (have H2_ := (Option.bind_some _ _).symm.trans H; with_reducible exact H2_) | with_reducible exact H | (rw [hy597]; exact H) | exact H
     have Ny597 := o_ hy597
     clear hy597
     have H' := o_ H
     clear H
     obtain ⟨Ao51, co51, eo51⟩ := Kd.R_slice HO_14.out
     subst eo51
     try go_wp2
     have n0_ := o_ (Kd.S_drew HO_12.out)
     have n1_ := o_ (Kd.R_drew HO_14.out)
     have n2_ := o_ (below_drew1 HB.out)
     clear HO_12
     clear HO_14
     clear HB
     have HO_12 := n0_
     have HO_14 := n1_
     have HB := n2_
     clear n0_ n1_ n2_
     have p589 : 0 ≤ (x15_2 : Int) := oa
     have q589 : x15_2 < (t586.length : Int) := oa
     obtain ⟨ad589, e589, hx589_0⟩ := Kd.at_int (Kd.R_reads' HO_14.out).2.2 x15_2 p589 q589
     cases e589
     replace p589 := eq_true p589
     replace q589 := eq_true q589
     obtain ⟨Ao53, co53, eo53⟩ := Kd.S_slice HO_12.out
     (first | subst eo53 | (injection eo53 with f1_ f2_ f3_; have f4_ := f1_.symm; have f5_ := f3_.symm; clear f1_ f2_ f3_; subst f4_; subst f5_))
     have p590 : 0 ≤ ((rd t586 x15_2) : Int) := oa
     have q590 : (rd t586 x15_2) < (x12_2.length : Int) := oa
     obtain ⟨ad590, A590_6, c590_6, e590, hx590_0, hx590_1, hx590_2, hx590_3, hx590_4, hx590_5, hx590_6, hl590_6, hi590_6⟩ := aT (Kd.S_reads' HO_12.out).2.2 (rd t586 x15_2) p590 q590
     cases e590
     obtain ⟨ce590, hce590, hMe590, hcc590⟩ := Kd.S_get HO_12.out z33 (rd t586 x15_2) p590 (by first | exact q590 | exact oa | (have e_ := (Kd.S_reads' HO_12.out).1; omega))
     obtain ⟨ve590_6, rfl, ge590_6⟩ := k33_openM hMe590
     have hv590_6 := hcc590 6 _ rfl
     rw [add_field _ _ 6 (by omega)] at hv590_6
     replace hv590_6 := Option.some.inj (hv590_6.symm.trans hx590_6)
     rw [hv590_6] at ge590_6
     have HL590_6 := o_ (show Kd.R (Kd.int .i64) 3 _ _ _ _ ((rT x12_2 (rd t586 x15_2)).f6) from ge590_6)
     clear hv590_6 ge590_6
     clear hcc590 hce590
     have HR590_6 := o_ hi590_6
     have HC590_6 := o_ hl590_6
     clear hi590_6 hl590_6
     replace p590 := eq_true p590
     replace q590 := eq_true q590
     have p32 : 0 ≤ ((rd t586 x15_2) : Int) := oa
     have q32 : ((rd t586 x15_2) : Int) < ((x12_2.length : Int) : Int) := oa
     obtain ⟨go32, co32, eo32, gb32, gl32, cl32, HG32⟩ := Kd.S_form HO_12.out (by omega)
     (first | cases eo32 | (injection eo32 with ea_ en_ ec_; (first | subst ea_ | (injection ea_ with ea_; subst ea_)); subst ec_; clear en_))
     have GB32 := o_ gb32
     have GG32 := o_ HG32
     clear gb32 gl32 HG32
     (first | simp only [add_plain] at hx590_0 | skip)
     (first | simp only [add_plain] at hx590_1 | skip)
     (first | simp only [add_plain] at hx590_2 | skip)
     (first | simp only [add_plain] at hx590_3 | skip)
     (first | simp only [add_plain] at hx590_4 | skip)
     (first | simp only [add_plain] at hx590_5 | skip)
     (first | simp only [add_plain] at hx590_6 | skip)
     obtain ⟨_, ce32, hcl32, hM32, hcc32, hfr32, _, _⟩ := Kd.S_elem HO_12.out z33 ((rd t586 x15_2) : Int) p32 q32
     obtain ⟨ve32_6, rfl, ge32_6⟩ := k33_openM hM32
     have hx32_0 : World.cell? _ ⟨go32, ((rd t586 x15_2) : Int).toNat * 7, none⟩ = some (.int .i64 ((rT x12_2 (rd t586 x15_2)).f0)) := hcc32 0 _ rfl
     have hx32_1 : World.cell? _ ⟨go32, ((rd t586 x15_2) : Int).toNat * 7 + 1, none⟩ = some (.int .i64 ((rT x12_2 (rd t586 x15_2)).f1)) := hcc32 1 _ rfl
     have hx32_2 : World.cell? _ ⟨go32, ((rd t586 x15_2) : Int).toNat * 7 + 2, none⟩ = some (.int .i64 ((rT x12_2 (rd t586 x15_2)).f2)) := hcc32 2 _ rfl
     have hx32_3 : World.cell? _ ⟨go32, ((rd t586 x15_2) : Int).toNat * 7 + 3, none⟩ = some (.int .i64 ((rT x12_2 (rd t586 x15_2)).f3)) := hcc32 3 _ rfl
     have hx32_4 : World.cell? _ ⟨go32, ((rd t586 x15_2) : Int).toNat * 7 + 4, none⟩ = some (.string ((rT x12_2 (rd t586 x15_2)).f4)) := hcc32 4 _ rfl
     have hx32_5 : World.cell? _ ⟨go32, ((rd t586 x15_2) : Int).toNat * 7 + 5, none⟩ = some (.string ((rT x12_2 (rd t586 x15_2)).f5)) := hcc32 5 _ rfl
     have hx32_6 : World.cell? _ ⟨go32, ((rd t586 x15_2) : Int).toNat * 7 + 6, none⟩ = some (ve32_6) := hcc32 6 _ rfl
     have hf32_0 : World.frozen? _ ⟨go32, ((rd t586 x15_2) : Int).toNat * 7, none⟩ = false := hfr32 0
     have hf32_1 : World.frozen? _ ⟨go32, ((rd t586 x15_2) : Int).toNat * 7 + 1, none⟩ = false := hfr32 1
     have hf32_2 : World.frozen? _ ⟨go32, ((rd t586 x15_2) : Int).toNat * 7 + 2, none⟩ = false := hfr32 2
     have hf32_3 : World.frozen? _ ⟨go32, ((rd t586 x15_2) : Int).toNat * 7 + 3, none⟩ = false := hfr32 3
     have hf32_4 : World.frozen? _ ⟨go32, ((rd t586 x15_2) : Int).toNat * 7 + 4, none⟩ = false := hfr32 4
     have hf32_5 : World.frozen? _ ⟨go32, ((rd t586 x15_2) : Int).toNat * 7 + 5, none⟩ = false := hfr32 5
     have hf32_6 : World.frozen? _ ⟨go32, ((rd t586 x15_2) : Int).toNat * 7 + 6, none⟩ = false := hfr32 6
     clear hcl32 hcc32 hfr32 hM32
     replace p32 := eq_true p32
     replace q32 := eq_true q32
     have HX54 := o_ (show Kd.S k33 33 _ w.heap.size (fun k_ => ((fun k_ => some k_ ≠ (.slice (some ad589) t586.length co51 : Value).ownBlock)) k_ ∧ ¬ (fun _ => False) k_) (.slice (some ⟨go32, 0, none⟩) x12_2.length co53) x12_2 from (by exact Kd.S_mono HO_12.out (fun k_ hk => ⟨hk, fun e_ => e_⟩)))
     obtain ⟨oki54, ce54, hcl54, hM54, hcc54, hfr54, hoki54, hH54⟩ := Kd.S_elem HX54.out z33 ((rd t586 x15_2) : Int) (oa) (by have h_ : ((rd t586 x15_2) : Int) < ((x12_2.length : Int) : Int) := oa; first | exact h_ | (have e_ := (Kd.S_reads' HO_12.out).1; omega) | simpa using h_)
     obtain ⟨ve54_6, rfl, ge54_6⟩ := k33_openM hM54
     have HP54 := (Kd.S_seg hH54 (oa) (by have h_ : ((rd t586 x15_2) : Int) < ((x12_2.length : Int) : Int) := oa; first | exact h_ | (have e_ := (Kd.S_reads' HO_12.out).1; omega) | simpa using h_) (seg := [.int .i64 (wrap64 (((rT x12_2 (rd t586 x15_2)).f1) + (wrap64 (Int.tdiv ji18 (t586.length : Int)))))]) (j := 1) (show 2 ≤ 7 from by decide) (x' := (⟨(rT x12_2 (rd t586 x15_2)).f0, wrap64 (((rT x12_2 (rd t586 x15_2)).f1) + (wrap64 (Int.tdiv ji18 (t586.length : Int)))), (rT x12_2 (rd t586 x15_2)).f2, (rT x12_2 (rd t586 x15_2)).f3, (rT x12_2 (rd t586 x15_2)).f4, (rT x12_2 (rd t586 x15_2)).f5, (rT x12_2 (rd t586 x15_2)).f6⟩ : S33)) (k33_mkM _ _ _ (⟨(rT x12_2 (rd t586 x15_2)).f0, wrap64 (((rT x12_2 (rd t586 x15_2)).f1) + (wrap64 (Int.tdiv ji18 (t586.length : Int)))), (rT x12_2 (rd t586 x15_2)).f2, (rT x12_2 (rd t586 x15_2)).f3, (rT x12_2 (rd t586 x15_2)).f4, (rT x12_2 (rd t586 x15_2)).f5, (rT x12_2 (rd t586 x15_2)).f6⟩ : S33) ge54_6) (fun _ hk => Or.inl hk) (fun _ hk => hk.elim)).1
     rw [← Ny591.out] at HP54
     have HQ54 := o_ HP54
     clear hcl54 hcc54 hfr54 hM54 HP54
     refine start_ (n := 16) (S := fun w' => w'.cell? (ad589.add (x15_2).toNat) = some (.int .i64 (rd t586 x15_2)) ∧ w'.cell? ⟨go32, ((rd t586 x15_2) : Int).toNat * 7, none⟩ = some (.int .i64 ((rT x12_2 (rd t586 x15_2)).f0)) ∧ w'.cell? ⟨go32, ((rd t586 x15_2) : Int).toNat * 7 + 1, none⟩ = some (.int .i64 ((rT x12_2 (rd t586 x15_2)).f1)) ∧ w'.cell? ⟨go32, ((rd t586 x15_2) : Int).toNat * 7 + 2, none⟩ = some (.int .i64 ((rT x12_2 (rd t586 x15_2)).f2)) ∧ w'.cell? ⟨go32, ((rd t586 x15_2) : Int).toNat * 7 + 3, none⟩ = some (.int .i64 ((rT x12_2 (rd t586 x15_2)).f3)) ∧ w'.cell? ⟨go32, ((rd t586 x15_2) : Int).toNat * 7 + 4, none⟩ = some (.string ((rT x12_2 (rd t586 x15_2)).f4)) ∧ w'.cell? ⟨go32, ((rd t586 x15_2) : Int).toNat * 7 + 5, none⟩ = some (.string ((rT x12_2 (rd t586 x15_2)).f5)) ∧ w'.cell? ⟨go32, ((rd t586 x15_2) : Int).toNat * 7 + 6, none⟩ = some (.slice A590_6 ((rT x12_2 (rd t586 x15_2)).f6).length c590_6)) (ds := [15]) #[false, false, false, false, false, false, false, false, false, false, false, false, false, false, false, false] (by kernel_rfl) rfl rfl ⟨hx589_0, hx590_0, hx590_1, hx590_2, hx590_3, hx590_4, hx590_5, hx590_6⟩ (fun hHeld => ?_); refine with_tabW r_Adjust.tab18 r_Adjust.bits18 (fun HT_ HW_ => ?_)
     generalize wr.drew = w52 at HO_12 HO_14 HB GG32 HL590_6 HQ54 HR590_6 hf32_0 hf32_1 hf32_2 hf32_3 hf32_4 hf32_5 hf32_6 hx32_0 hx32_1 hx32_2 hx32_3 hx32_4 hx32_5 hx32_6 hx589_0 hx590_0 hx590_1 hx590_2 hx590_3 hx590_4 hx590_5 hx590_6 hHeld ⊢
     refine pu 0 75 HT_ (h := ?_)
     refine pu 1 76 HT_ (h := ?_)
     refine pu 2 77 HT_ (h := ?_)
     refine pu 3 78 HT_ (h := ?_)
     refine pu 8 83 HT_ (h := ?_)
     refine pu 9 84 HT_ (h := ?_)
     refine pu 10 85 HT_ (h := ?_)
     refine pu 11 86 HT_ (h := ?_)
     refine tk 4 79 HT_ HW_ hHeld (hy := by rintro w' ⟨s0, s1, s2, s3, s4, s5, s6, s7⟩; go_simp; with_reducible rfl) (h := ?_)
     refine pu 5 80 HT_ (h := ?_)
     refine pu 6 81 HT_ (h := ?_)
     refine tk 7 82 HT_ HW_ hHeld (hy := by rintro w' ⟨s0, s1, s2, s3, s4, s5, s6, s7⟩; go_simp; with_reducible rfl) (h := ?_)
     refine pu 12 87 HT_ (h := ?_)
     refine pu 13 88 HT_ (h := ?_)
     refine pu 14 89 HT_ (h := ?_)
     refine last_ (i := 15) (N := none) #[true, true, true, true, true, true, true, true, true, true, true, true, true, true, true, true] rfl rfl (one_of HT_.out (by kernel_rfl)) (by decide) (fun K hK => ?_)
     refine skip_ (w1 := ?_) (by rfl) rfl ?_ ?_
     rotate_left
     ·go_simp
      rfl
     refine hK.out _ _ ?_
     clear hK K
     refine done_ (done_of HT_.out (by kernel_rfl)) ?_
     have n0_ : As (Kd.S k33 33 (w52.setCell ⟨go32, ((rd t586 x15_2) : Int).toNat * 7 + 1, none⟩ (.int .i64 (wrap64 (((rT x12_2 (rd t586 x15_2)).f1) + (wrap64 (Int.tdiv ji18 (t586.length : Int))))))) w.heap.size (fun k_ => some k_ ≠ (.slice (some ad589) t586.length co51 : Value).ownBlock) (.slice (some ⟨go32, 0, none⟩) x12_2.length co53) y591) := ⟨by (with_reducible repeat (first | apply Kd.S_alloc | apply Kd.S_drewN | apply Kd.S_drew)); exact HQ54.out⟩
     have n1_ : As (Kd.R (Kd.int .i64) 3 (w52.setCell ⟨go32, ((rd t586 x15_2) : Int).toNat * 7 + 1, none⟩ (.int .i64 (wrap64 (((rT x12_2 (rd t586 x15_2)).f1) + (wrap64 (Int.tdiv ji18 (t586.length : Int))))))) w.heap.size (fun _ => True) (.slice (some ad589) t586.length co51) t586) := ⟨by (with_reducible repeat (first | apply Kd.R_alloc | apply Kd.R_drewN | apply Kd.R_drew)); exact Kd.R_mono (Kd.R_far (p := ⟨go32, ((rd t586 x15_2) : Int).toNat * 7 + 1, none⟩) (Kd.R_types HO_14.out GG32.out (by decide)) (fun _ hk => hk.2) (.int .i64 (wrap64 (((rT x12_2 (rd t586 x15_2)).f1) + (wrap64 (Int.tdiv ji18 (t586.length : Int))))))) (fun _ hk => trivial)⟩
     have n2_ : As (Kd.R (Kd.int .i64) 3 (w52.setCell ⟨go32, ((rd t586 x15_2) : Int).toNat * 7 + 1, none⟩ (.int .i64 (wrap64 (((rT x12_2 (rd t586 x15_2)).f1) + (wrap64 (Int.tdiv ji18 (t586.length : Int))))))) w.heap.size (fun k_ => some k_ ≠ (.slice (some ⟨go32, 0, none⟩) x12_2.length co53 : Value).ownBlock ∧ some k_ ≠ (.slice (some ad589) t586.length co51 : Value).ownBlock) (.slice A590_6 ((rT x12_2 (rd t586 x15_2)).f6).length c590_6) ((rT x12_2 (rd t586 x15_2)).f6)) := ⟨by (with_reducible repeat (first | apply Kd.R_alloc | apply Kd.R_drewN | apply Kd.R_drew)); exact Kd.R_mono (Kd.R_far (p := ⟨go32, ((rd t586 x15_2) : Int).toNat * 7 + 1, none⟩) (Kd.R_types HL590_6.out GG32.out (by decide)) (fun _ hk => hk.2) (.int .i64 (wrap64 (((rT x12_2 (rd t586 x15_2)).f1) + (wrap64 (Int.tdiv ji18 (t586.length : Int))))))) (fun _ hk => ⟨hk.1.2, hk.1.1⟩)⟩
     have n3_ : As (Below w.heap.size w (w52.setCell ⟨go32, ((rd t586 x15_2) : Int).toNat * 7 + 1, none⟩ (.int .i64 (wrap64 (((rT x12_2 (rd t586 x15_2)).f1) + (wrap64 (Int.tdiv ji18 (t586.length : Int)))))))) := ⟨by repeat (first | (with_reducible first | exact HB.out | apply below_alloc | apply pw_below_drewN | apply below_drew1 | refine below_set ?_ GB32.out) | exact HB.out)⟩
     (try clear HO_12)
     (try clear HO_14)
     (try clear HL590_6)
     (try clear HB)
     generalize (w52.setCell ⟨go32, ((rd t586 x15_2) : Int).toNat * 7 + 1, none⟩ (.int .i64 (wrap64 (((rT x12_2 (rd t586 x15_2)).f1) + (wrap64 (Int.tdiv ji18 (t586.length : Int))))))) = w55 at n0_ n1_ n2_ n3_ ⊢
     have HO_12 := n0_
     have HO_14 := n1_
     have HL590_6 := n2_
     have HB := n3_
     clear n0_ n1_ n2_ n3_
     have p595 : 0 ≤ (x15_2 : Int) := oa
     have q595 : x15_2 < (t586.length : Int) := oa
     obtain ⟨ad595, e595, hx595_0⟩ := Kd.at_int (Kd.R_reads' HO_14.out).2.2 x15_2 p595 q595
     obtain rfl : ad589 = ad595 := (by injection e595)
     replace p595 := eq_true p595
     replace q595 := eq_true q595
     have p49 : 0 ≤ ((rd t586 x15_2) : Int) := oa
     have q49 : ((rd t586 x15_2) : Int) < ((x12_2.length : Int) : Int) := oa
     replace p49 := eq_true p49
     replace q49 := eq_true q49
     have p50 : 0 ≤ ((rd t586 x15_2) : Int) := oa
     have q50 : ((rd t586 x15_2) : Int) < ((x12_2.length : Int) : Int) := oa
     replace p50 := eq_true p50
     replace q50 := eq_true q50
     have HX56 := o_ (show Kd.S k33 33 w55 w.heap.size (fun k_ => ((fun k_ => some k_ ≠ (.slice (some ad589) t586.length co51 : Value).ownBlock)) k_ ∧ ¬ ((fun _ => False)) k_) (.slice (some ⟨go32, 0, none⟩) x12_2.length co53) y591 from (by (with_reducible repeat (first | apply Kd.S_alloc | apply Kd.S_drewN | apply Kd.S_drew)); exact Kd.S_mono HO_12.out (fun k_ hk => ⟨hk, fun e_ => e_⟩)))
     obtain ⟨oki56, ce56, hcl56, hM56, hcc56, hfr56, hoki56, hH56⟩ := Kd.S_elem HX56.out z33 ((rd t586 x15_2) : Int) (oa) (by have h_ : ((rd t586 x15_2) : Int) < ((x12_2.length : Int) : Int) := oa; first | exact h_ | (have e_ := (Kd.S_reads' HO_12.out).1; omega) | simpa using h_)
     obtain ⟨ve56_6, rfl, ge56_6⟩ := k33_openM hM56
     have HP56 := Kd.S_seg hH56 (oa) (by have h_ : ((rd t586 x15_2) : Int) < ((x12_2.length : Int) : Int) := oa; first | exact h_ | (have e_ := (Kd.S_reads' HO_12.out).1; omega) | simpa using h_) (seg := [.int .i64 (wrap64 ((wrap64 (((rT x12_2 (rd t586 x15_2)).f1) + (wrap64 (Int.tdiv ji18 (t586.length : Int))))) + 1))]) (j := 1) (show 2 ≤ 7 from by decide) (x' := (⟨(rT y591 (rd t586 x15_2)).f0, wrap64 ((wrap64 (((rT x12_2 (rd t586 x15_2)).f1) + (wrap64 (Int.tdiv ji18 (t586.length : Int))))) + 1), (rT y591 (rd t586 x15_2)).f2, (rT y591 (rd t586 x15_2)).f3, (rT y591 (rd t586 x15_2)).f4, (rT y591 (rd t586 x15_2)).f5, (rT y591 (rd t586 x15_2)).f6⟩ : S33)) (k33_mkM _ _ _ (⟨(rT y591 (rd t586 x15_2)).f0, wrap64 ((wrap64 (((rT x12_2 (rd t586 x15_2)).f1) + (wrap64 (Int.tdiv ji18 (t586.length : Int))))) + 1), (rT y591 (rd t586 x15_2)).f2, (rT y591 (rd t586 x15_2)).f3, (rT y591 (rd t586 x15_2)).f4, (rT y591 (rd t586 x15_2)).f5, (rT y591 (rd t586 x15_2)).f6⟩ : S33) (Kd.R_mono ge56_6 (fun _ h_ => Or.inl h_))) (fun _ hk => hk) (fun k_ hk_ => hk_.elim)
     have hx56_1 := hcc56 1 _ rfl
     have hv56 : (y591.getD (rd t586 x15_2).toNat z33).f1 = wrap64 (((rT x12_2 (rd t586 x15_2)).f1) + (wrap64 (Int.tdiv ji18 (t586.length : Int)))) := by rw [Ny591.out, List.getD_eq_getElem?_getD, List.getElem?_set_self (by have a_ : 0 ≤ ((rd t586 x15_2) : Int) := oa; have b_ : ((rd t586 x15_2) : Int) < ((x12_2.length : Int) : Int) := oa; omega)]; rfl
     rw [hv56] at hx56_1
     clear hv56
     (try simp only [show (k33).sz = 7 from rfl, Nat.mul_one, Nat.add_zero] at hx56_1)
     have hf56_1 := hfr56 1
     (try simp only [show (k33).sz = 7 from rfl, Nat.mul_one, Nat.add_zero] at hf56_1)
     clear hcl56 hcc56 hfr56 hM56 hoki56 hH56
     try go_wp2_with (first | ((with_reducible refine gate_store (t := 3) (p := 122) rfl ?_); refine store_event (t := 3) (p := 122) (v := ?vo_w57) (w1 := (w55.setCell ⟨go32, ((rd t586 x15_2) : Int).toNat * 7 + 1, none⟩ (.int .i64 (wrap64 ((wrap64 (((rT x12_2 (rd t586 x15_2)).f1) + (wrap64 (Int.tdiv ji18 (t586.length : Int))))) + 1))))) ?hg ?ho ?hn ?hr ?_; (case ho => rfl); (case hg => rfl); (case hn => rfl); (case hr => first | (go_simp; done) | (go_simp; rfl)); intro w57 hw; have hg : w55.grownBy w57 (some go32) := (by rw [hw]; exact HP56.2); have hp_ : Kd.S k33 33 w57 w.heap.size (fun k_ => some k_ ≠ (.slice (some ad589) t586.length co51 : Value).ownBlock) (.slice (some ⟨go32, 0, none⟩) x12_2.length co53) y597 := (by rw [hw, Ny597.out]; exact HP56.1); clear HP56; have n0_ := o_ (hp_); have n1_ := o_ (Kd.R_over' (v := (.slice (some ⟨go32, 0, none⟩) x12_2.length co53)) (by (with_reducible repeat (first | apply Kd.R_alloc | apply Kd.R_drewN | apply Kd.R_drew)); exact HO_14.out) (Kd.S_typed HO_12.out) (by decide) hg); have n2_ := o_ (Kd.R_after (v := (.slice (some ⟨go32, 0, none⟩) x12_2.length co53)) (v1 := (.slice (some ⟨go32, 0, none⟩) x12_2.length co53)) (ok := (fun k_ => some k_ ≠ (.slice (some ad589) t586.length co51 : Value).ownBlock)) (by (with_reducible repeat (first | apply Kd.R_alloc | apply Kd.R_drewN | apply Kd.R_drew)); exact Kd.R_mono HL590_6.out (fun _ hk => ⟨hk.2, hk.1⟩)) hg (.inl rfl)); have n3_ := o_ ((by rw [hw]; exact below_set (HB.out) GB32.out : Below w.heap.size w w57)); clear HO_12; clear HO_14; clear HL590_6; clear HB; have HO_12 := n0_; have HO_14 := n1_; have HL590_6 := n2_; have HB := n3_; clear n0_ n1_ n2_ n3_; clear hg hw hp_))
     go_roundg k2
     case measure => have := HJ5.out; have := HK2.out; omega
     case rel => exact ⟨(y597), (wrap64 (x15_2 + 1)), (by first | rfl | simp [*]), H', ⟨by have := HJ5.out; have := HK2.out; omega⟩, ⟨by (with_reducible repeat (first | apply Kd.S_alloc | apply Kd.S_drewN | apply Kd.S_drew)); exact HO_12.out⟩, ⟨by (with_reducible repeat (first | apply Kd.R_alloc | apply Kd.R_drewN | apply Kd.R_drew)); exact HO_14.out⟩, ⟨by repeat (first | (with_reducible first | exact HB.out | apply below_alloc | apply pw_below_drewN | apply below_drew1) | exact HB.out)⟩⟩
end Go.Proofs.Yteadghhmoggjnaa.Q
end
