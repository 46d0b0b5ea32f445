import Derived.Test.YteadghhmoggjnaaFM22
import Derived.Test.YteadghhmoggjnaaFM23
set_option linter.unusedVariables false
set_option linter.unusedSimpArgs false
section
namespace Go.Proofs.Yteadghhmoggjnaa.Q
open Go.RowKit YteadghhmoggjnaaW.PrintWords YteadghhmoggjnaaW.PrintLast YteadghhmoggjnaaW.PrintMore
attribute [local go_sem] max2_int max_two
set_option maxHeartbeats 8000000
set_option maxRecDepth 100000
def w_rows.l0 : Nat → List (List (S33)) → List (List (S33)) → Int → Option (Bool)
 | 0, _, _, _ => none
 | k + 1, x0, x1, x5 => if x5 < (x0.length : Int) then (if 0 ≤ x5 then (if x5 < (x1.length : Int) then ((s_Same.f k (rd_L4 x0 x5) (rd_L4 x1 x5)).bind fun t580 => (if t580 = true then (w_rows.l0 k x0 x1 (wrap64 (x5 + 1))) else (some false))) else (none)) else (none)) else (some true)
def w_rows.f (k : Nat) (l0 : List (List (S33))) (l1 : List (List (S33))) : Option (Bool) := if (l0.length : Int) = (l1.length : Int) then (w_rows.l0 k l0 l1 0) else (some false)
def w_rows.T6 : Bool × List (List Nat × List Nat) := (true, [([], []), ([], []), ([0, 1], [0, 1]), ([2], [2]), ([], []), ([], []), ([4, 5], [4, 5]), ([6], [6]), ([3, 7], [3, 7]), ([8], [8])])
def w_rows.B6 : List Nat := [0, 0, 3, 7, 0, 0, 48, 112, 255, 511]
theorem w_rows.tab6 : rtab .any (opsOf Try.f46 6) = w_rows.T6 := by kernel_rfl
theorem w_rows.bits6 : waitsOk w_rows.T6.2 w_rows.B6 = true := by kernel_rfl
theorem w_rows.calls (k : Nat) (A0 : Option Addr) (c0 : Nat) (l0 : List (List (S33))) (A1 : Option Addr) (c1 : Nat) (l1 : List (List (S33))) (r : Bool) (w : World) (hr0 : Kd.C (Kd.slice 33 k33) w A0 l0.length l0) (hc0 : l0.length ≤ c0) (hr1 : Kd.C (Kd.slice 33 k33) w A1 l1.length l1) (hc1 : l1.length ≤ c1) (h : w_rows.f k l0 l1 = some r) :
  Calls Try.prog 46 #[.slice A0 l0.length c0, .slice A1 l1.length c1] w fun e w' => e = .returned (.bool r) ∧ Below w.heap.size w w' := by
 have HR0 := o_ hr0
 have HC0 := o_ hc0
 clear hr0 hc0
 have HR1 := o_ hr1
 have HC1 := o_ hc1
 clear hr1 hc1
 have HB := o_ (Below.refl w.heap.size w)
 have H : (if (l0.length : Int) = (l1.length : Int) then (w_rows.l0 k l0 l1 0) else (some false)) = some r := h
 clear h
 by_cases c3 : (l0.length : Int) = (l1.length : Int)
 rotate_left
 ·rw [if_neg c3] at H
  have c3b0 : ((l0.length : Int) == (l1.length : Int)) = false := beq_eq_false_iff_ne.mpr c3
  have c3b1 : ((l0.length : Int) != (l1.length : Int)) = true := bne_iff_ne.mpr c3
  have c3b2 : (l0.length == l1.length) = false := by first | simpa using c3 | (simp at c3 ⊢; omega)
  obtain rfl := Option.some.inj H
  go_enter Try.func46, Try.ntmps46
  go_wp2
  go_ret
  exact ⟨by first | rfl | (simp [*] <;> rfl), bl HB⟩
 rw [if_pos c3] at H
 have c3b0 : ((l0.length : Int) == (l1.length : Int)) = true := beq_iff_eq.mpr c3
 have c3b1 : ((l0.length : Int) != (l1.length : Int)) = false := bne_eq_false_iff_eq.mpr c3
 have c3b2 : (l0.length == l1.length) = true := by first | simpa using c3 | (simp at c3 ⊢; omega)
 clear c3
 have H' := o_ H
 clear H
 go_enter Try.func46, Try.ntmps46
 go_wp2
 go_loopg [5] k (fun kq v5 w' => ∃ (x5_1 : Int), v5 = .int .i64 x5_1 ∧ As (w_rows.l0 kq l0 l1 x5_1 = some r) ∧ As (kq ≤ k) ∧ As (Below w.heap.size w w'))
 case atStart => exact ⟨(0), (by first | rfl | simp [*]), H', ⟨Nat.le_refl _⟩, ⟨bl HB⟩⟩
 case round =>
  clear H'
  obtain ⟨x5_1, rfl, HA, HK1, HB⟩ := hrel
  cases gk with
  | zero => exact absurd HA.out (by simp [w_rows.l0])
  | succ k1 =>
   have H := HA.out
   clear HA
   simp only [w_rows.l0] at H
   by_cases c4 : x5_1 < (l0.length : Int)
   rotate_left
   ·rw [if_neg c4] at H
    have c4b0 := decide_eq_false c4
    clear c4
    obtain rfl := Option.some.inj H
    go_wp2
    go_ret
    exact ⟨by first | rfl | (simp [*] <;> rfl), bl HB⟩
   rw [if_pos c4] at H
   have c4b0 := decide_eq_true c4
   clear c4
   by_cases c5 : 0 ≤ x5_1
   rotate_left
   ·rw [if_neg c5] at H
    exact absurd H (by simp)
   rw [if_pos c5] at H
   have c5b0 := decide_eq_true c5
   clear c5
   by_cases c6 : x5_1 < (l1.length : Int)
   rotate_left
   ·rw [if_neg c6] at H
    exact absurd H (by simp)
   rw [if_pos c6] at H
   have c6b0 := decide_eq_true c6
   clear c6
   obtain ⟨t580, A70, H⟩ := qb H
   try dsimp only at H
   have A7 := o_ A70
   clear A70
   by_cases c8 : t580 = true
   rotate_left
   ·replace c8 := Bool.eq_false_iff.mpr c8
    subst c8
    have H1 : (some false) = some r := by rw [if_neg (show ¬ (false = true) by decide)] at H; exact H
    clear H
    have H := H1
    clear H1
    obtain rfl := Option.some.inj H
    try go_wp2
    have n0_ := o_ (below_drew1 HB.out)
    clear HB
    have HB := n0_
    clear n0_
    have p578 : 0 ≤ (x5_1 : Int) := oa
    have q578 : x5_1 < (l0.length : Int) := oa
    obtain ⟨ad578, A578_0, c578_0, e578, hx578_0, hl578_0, hi578_0⟩ := at_L4 HR0.out x5_1 p578 q578
    have hw578_0 := hx578_0
    cases e578
    replace hx578_0 := ct HB hx578_0
    have HR578_0 := o_ hi578_0
    have HC578_0 := o_ hl578_0
    clear hi578_0 hl578_0
    replace p578 := eq_true p578
    replace q578 := eq_true q578
    have p579 : 0 ≤ (x5_1 : Int) := oa
    have q579 : x5_1 < (l1.length : Int) := oa
    obtain ⟨ad579, A579_0, c579_0, e579, hx579_0, hl579_0, hi579_0⟩ := at_L4 HR1.out x5_1 p579 q579
    have hw579_0 := hx579_0
    cases e579
    replace hx579_0 := ct HB hx579_0
    have HR579_0 := o_ hi579_0
    have HC579_0 := o_ hl579_0
    clear hi579_0 hl579_0
    replace p579 := eq_true p579
    replace q579 := eq_true q579
    refine start_ (n := 10) (S := fun w' => w'.cell? (ad578.add (x5_1).toNat) = some (.slice A578_0 (rd_L4 l0 x5_1).length c578_0) ∧ w'.cell? (ad579.add (x5_1).toNat) = some (.slice A579_0 (rd_L4 l1 x5_1).length c579_0)) (ds := []) #[false, false, false, false, false, false, false, false, false, false] (by kernel_rfl) rfl rfl ⟨(ct HB hw578_0), (ct HB hw579_0)⟩ (fun hHeld => ?_); refine with_tabW w_rows.tab6 w_rows.bits6 (fun HT_ HW_ => ?_)
    generalize wr.drew = w11 at HB HR578_0 HR579_0 hx578_0 hx579_0 hHeld ⊢
    refine pu 0 17 HT_ (h := ?_)
    refine pu 1 18 HT_ (h := ?_)
    refine pu 2 19 HT_ (h := ?_)
    refine pu 4 21 HT_ (h := ?_)
    refine pu 5 22 HT_ (h := ?_)
    refine pu 6 23 HT_ (h := ?_)
    refine tk 3 20 HT_ HW_ hHeld (hy := by rintro w' ⟨s0, s1⟩; go_simp; with_reducible rfl) (h := ?_)
    refine tk 7 24 HT_ HW_ hHeld (hy := by rintro w' ⟨s0, s1⟩; go_simp; with_reducible rfl) (h := ?_)
    refine one_ (i := 8) (N := some 25) #[true, true, true, true, true, true, true, true, true, false] rfl rfl (one_of HT_.out (by kernel_rfl)) (by decide) (fun K hK => ?_)
    refine goes_ Try.func14 (by kernel_rfl) rfl #[.slice A578_0 (rd_L4 l0 x5_1).length c578_0, .slice A579_0 (rd_L4 l1 x5_1).length c579_0] (by rfl) rfl rfl (by (try simp only [List.map_toArray, List.map_cons, List.map_nil]); first | done | rfl | (simp only [List.length_drop, List.length_take]; rfl)) ?_
    with_reducible refine (s_Same.calls k1 _ _ (rd_L4 l0 x5_1) _ _ (rd_L4 l1 x5_1) false _ ?side1 ?side2 ?side3 ?side4 A7.out).mono ?_
    (case side1 => exact Kd.C_below HR578_0.out (bl HB))
    (case side2 => exact HC578_0.out)
    (case side3 => exact Kd.C_below HR579_0.out (bl HB))
    (case side4 => exact HC579_0.out)
    rintro e w12 ⟨rfl, hb⟩
    refine ⟨_, rfl, ?_⟩
    have n0_ := o_ (below_step (bl HB) hb)
    clear HB
    have HB := n0_
    clear n0_
    (try clear hb)
    (try clear hb2)
    (try clear hk)
    (try clear hi)
    refine hK.out _ _ ⟨(ct HB hw578_0), (ct HB hw579_0)⟩ (fun hHeld => ?_)
    clear hK K
    refine norm_ (a' := ?_) ?_ ?_
    rotate_left
    ·show Act.put _ (some 25) _ = _
     simp only [Act.put, List.setIfInBounds_toArray, List.set_cons_zero, List.set_cons_succ, i64_w, i32_w]
     rfl
    refine pu 9 26 HT_ (h := ?_)
    refine done_ (done_of HT_.out (by kernel_rfl)) ?_
    try go_wp2
    go_ret
    exact ⟨by first | rfl | (simp [*] <;> rfl), bl HB⟩
   subst c8
   have H1 : (w_rows.l0 k1 l0 l1 (wrap64 (x5_1 + 1))) = some r := by rw [if_pos rfl] at H; exact H
   clear H
   have H := H1
   clear H1
   have H' := o_ H
   clear H
   try go_wp2
   have n0_ := o_ (below_drew1 HB.out)
   clear HB
   have HB := n0_
   clear n0_
   have p578 : 0 ≤ (x5_1 : Int) := oa
   have q578 : x5_1 < (l0.length : Int) := oa
   obtain ⟨ad578, A578_0, c578_0, e578, hx578_0, hl578_0, hi578_0⟩ := at_L4 HR0.out x5_1 p578 q578
   have hw578_0 := hx578_0
   cases e578
   replace hx578_0 := ct HB hx578_0
   have HR578_0 := o_ hi578_0
   have HC578_0 := o_ hl578_0
   clear hi578_0 hl578_0
   replace p578 := eq_true p578
   replace q578 := eq_true q578
   have p579 : 0 ≤ (x5_1 : Int) := oa
   have q579 : x5_1 < (l1.length : Int) := oa
   obtain ⟨ad579, A579_0, c579_0, e579, hx579_0, hl579_0, hi579_0⟩ := at_L4 HR1.out x5_1 p579 q579
   have hw579_0 := hx579_0
   cases e579
   replace hx579_0 := ct HB hx579_0
   have HR579_0 := o_ hi579_0
   have HC579_0 := o_ hl579_0
   clear hi579_0 hl579_0
   replace p579 := eq_true p579
   replace q579 := eq_true q579
   refine start_ (n := 10) (S := fun w' => w'.cell? (ad578.add (x5_1).toNat) = some (.slice A578_0 (rd_L4 l0 x5_1).length c578_0) ∧ w'.cell? (ad579.add (x5_1).toNat) = some (.slice A579_0 (rd_L4 l1 x5_1).length c579_0)) (ds := []) #[false, false, false, false, false, false, false, false, false, false] (by kernel_rfl) rfl rfl ⟨(ct HB hw578_0), (ct HB hw579_0)⟩ (fun hHeld => ?_); refine with_tabW w_rows.tab6 w_rows.bits6 (fun HT_ HW_ => ?_)
   generalize wr.drew = w9 at HB HR578_0 HR579_0 hx578_0 hx579_0 hHeld ⊢
   refine pu 0 17 HT_ (h := ?_)
   refine pu 1 18 HT_ (h := ?_)
   refine pu 2 19 HT_ (h := ?_)
   refine pu 4 21 HT_ (h := ?_)
   refine pu 5 22 HT_ (h := ?_)
   refine pu 6 23 HT_ (h := ?_)
   refine tk 3 20 HT_ HW_ hHeld (hy := by rintro w' ⟨s0, s1⟩; go_simp; with_reducible rfl) (h := ?_)
   refine tk 7 24 HT_ HW_ hHeld (hy := by rintro w' ⟨s0, s1⟩; go_simp; with_reducible rfl) (h := ?_)
   refine one_ (i := 8) (N := some 25) #[true, true, true, true, true, true, true, true, true, false] rfl rfl (one_of HT_.out (by kernel_rfl)) (by decide) (fun K hK => ?_)
   refine goes_ Try.func14 (by kernel_rfl) rfl #[.slice A578_0 (rd_L4 l0 x5_1).length c578_0, .slice A579_0 (rd_L4 l1 x5_1).length c579_0] (by rfl) rfl rfl (by (try simp only [List.map_toArray, List.map_cons, List.map_nil]); first | done | rfl | (simp only [List.length_drop, List.length_take]; rfl)) ?_
   with_reducible refine (s_Same.calls k1 _ _ (rd_L4 l0 x5_1) _ _ (rd_L4 l1 x5_1) true _ ?side1 ?side2 ?side3 ?side4 A7.out).mono ?_
   (case side1 => exact Kd.C_below HR578_0.out (bl HB))
   (case side2 => exact HC578_0.out)
   (case side3 => exact Kd.C_below HR579_0.out (bl HB))
   (case side4 => exact HC579_0.out)
   rintro e w10 ⟨rfl, hb⟩
   refine ⟨_, rfl, ?_⟩
   have n0_ := o_ (below_step (bl HB) hb)
   clear HB
   have HB := n0_
   clear n0_
   (try clear hb)
   (try clear hb2)
   (try clear hk)
   (try clear hi)
   refine hK.out _ _ ⟨(ct HB hw578_0), (ct HB hw579_0)⟩ (fun hHeld => ?_)
   clear hK K
   refine norm_ (a' := ?_) ?_ ?_
   rotate_left
   ·show Act.put _ (some 25) _ = _
    simp only [Act.put, List.setIfInBounds_toArray, List.set_cons_zero, List.set_cons_succ, i64_w, i32_w]
    rfl
   refine pu 9 26 HT_ (h := ?_)
   refine done_ (done_of HT_.out (by kernel_rfl)) ?_
   try go_wp2
   go_roundg k1
   case measure => have := HK1.out; omega
   case rel => exact ⟨(wrap64 (x5_1 + 1)), (by first | rfl | simp [*]), H', ⟨by have := HK1.out; omega⟩, ⟨bl HB⟩⟩
end Go.Proofs.Yteadghhmoggjnaa.Q
end
section
namespace Go.Proofs.Yteadghhmoggjnaa.Q
open Go.RowKit YteadghhmoggjnaaW.PrintWords YteadghhmoggjnaaW.PrintLast YteadghhmoggjnaaW.PrintMore
attribute [local go_sem] max2_int max_two
def fill_growing.f (l0 : List (S33)) : Option (List Int) := if Go.Proofs.YteadghhmoggjnaaB.okL l0 = true then some (Go.Proofs.YteadghhmoggjnaaB.growL l0) else none
theorem fill_growing.calls (A0 : Option Addr) (c0 : Nat) (l0 : List (S33)) (r : List Int) (w : World) (hr0 : Kd.C k33 w A0 l0.length l0) (hc0 : l0.length ≤ c0) (h : fill_growing.f l0 = some r) :
  Calls Try.prog 34 #[.slice A0 l0.length c0] w fun e w' => ∃ v0_ : Value, e = .returned (v0_) ∧ Kd.R (Kd.int .i64) 3 w' w.heap.size (fun _ => True) v0_ r ∧ Below w.heap.size w w' := by
 obtain ⟨h1, rfl⟩ := Go.Proofs.YteadghhmoggjnaaB.of_if h
 exact (Go.Proofs.YteadghhmoggjnaaB.growing_any A0 _ c0 l0 (fun _ => True) w (Go.Proofs.YteadghhmoggjnaaB.rd_boxes hr0) hc0 (Go.Proofs.YteadghhmoggjnaaB.okL_len h1) (Go.Proofs.YteadghhmoggjnaaB.okL_max h1)).mono fun e w' ⟨v, he, ho, hb⟩ => ⟨v, he, Go.Proofs.YteadghhmoggjnaaB.R_ints ho (fun _ _ => trivial), hb⟩
end Go.Proofs.Yteadghhmoggjnaa.Q
end
section
namespace Go.Proofs.Yteadghhmoggjnaa.Q
open Go.RowKit YteadghhmoggjnaaW.PrintWords YteadghhmoggjnaaW.PrintLast YteadghhmoggjnaaW.PrintMore
attribute [local go_sem] max2_int max_two
set_option maxHeartbeats 8000000
set_option maxRecDepth 100000
def fill_Gaps.f (l0 : List (S33)) : Option (Int) := (fill_growing.f l0).bind fun t598 => (some (t598.length : Int))
theorem fill_Gaps.calls (A0 : Option Addr) (c0 : Nat) (l0 : List (S33)) (r : Int) (w : World) (hr0 : Kd.C k33 w A0 l0.length l0) (hc0 : l0.length ≤ c0) (h : fill_Gaps.f l0 = some r) :
  Calls Try.prog 48 #[.slice A0 l0.length c0] w fun e w' => e = .returned (.int .i64 r) ∧ Below w.heap.size w w' := by
 have HR0 := o_ hr0
 have HC0 := o_ hc0
 clear hr0 hc0
 have HB := o_ (Below.refl w.heap.size w)
 have H : ((fill_growing.f l0).bind fun t598 => (some (t598.length : Int))) = some r := h
 clear h
 obtain ⟨t598, A20, H⟩ := qb H
 try dsimp only at H
 have A2 := o_ A20
 clear A20
 obtain rfl := Option.some.inj H
 go_enter Try.func48, Try.ntmps48
 go_wp2_with (first | (go_at_call 34; (with_reducible refine (fill_growing.calls _ _ l0 t598 _ ?side1 ?side2 A2.out).mono ?_); (case side1 => exact Cu HR0); (case side2 => exact HC0.out); rintro e w3 ⟨v599, rfl, ho0, hb⟩; have n0_ := o_ (Kd.R_lower ho0 (below_size (bl HB))); have n1_ := o_ (below_step (bl HB) hb); clear HB; have HO600 := n0_; have HB := n1_; clear n0_ n1_; (try clear hb); (try clear ho0); obtain ⟨Ao4, co4, eo4⟩ := Kd.R_slice HO600.out; subst eo4))
 go_ret
 exact ⟨by first | rfl | (simp [*] <;> rfl), bl HB⟩
def r_Gaps.f (k : Nat) (l0 : List (S33)) : Option (Int) := (r_Growing.f k l0).bind fun t601 => (some (t601.length : Int))
theorem r_Gaps.calls (k : Nat) (A0 : Option Addr) (c0 : Nat) (l0 : List (S33)) (r : Int) (w : World) (hr0 : Kd.C k33 w A0 l0.length l0) (hc0 : l0.length ≤ c0) (h : r_Gaps.f k l0 = some r) :
  Calls Try.prog 49 #[.slice A0 l0.length c0] w fun e w' => e = .returned (.int .i64 r) ∧ Below w.heap.size w w' := by
 have HR0 := o_ hr0
 have HC0 := o_ hc0
 clear hr0 hc0
 have HB := o_ (Below.refl w.heap.size w)
 have H : ((r_Growing.f k l0).bind fun t601 => (some (t601.length : Int))) = some r := h
 clear h
 obtain ⟨t601, A20, H⟩ := qb H
 try dsimp only at H
 have A2 := o_ A20
 clear A20
 obtain rfl := Option.some.inj H
 go_enter Try.func49, Try.ntmps49
 go_wp2_with (first | (go_at_call 12; (with_reducible refine (r_Growing.calls k _ _ l0 t601 _ ?side1 ?side2 A2.out).mono ?_); (case side1 => exact Cu HR0); (case side2 => exact HC0.out); rintro e w3 ⟨v602, rfl, ho0, hb⟩; have n0_ := o_ (Kd.R_lower ho0 (below_size (bl HB))); have n1_ := o_ (below_step (bl HB) hb); clear HB; have HO603 := n0_; have HB := n1_; clear n0_ n1_; (try clear hb); (try clear ho0); obtain ⟨Ao4, co4, eo4⟩ := Kd.R_slice HO603.out; subst eo4))
 go_ret
 exact ⟨by first | rfl | (simp [*] <;> rfl), bl HB⟩
end Go.Proofs.Yteadghhmoggjnaa.Q
end
section
namespace Go.Proofs.Yteadghhmoggjnaa.Q
open Go.RowKit YteadghhmoggjnaaW.PrintWords YteadghhmoggjnaaW.PrintLast YteadghhmoggjnaaW.PrintMore
attribute [local go_sem] max2_int max_two
def fill_Words.f (l0 : List (S33)) : Option ((List (List (S33)))) := if Go.Proofs.YteadghhmoggjnaaB.okL l0 = true then some (wordsL l0) else none
theorem fill_Words.calls (A0 : Option Addr) (c0 : Nat) (l0 : List (S33)) (r : List (List (S33))) (w : World) (hr0 : Kd.C k33 w A0 l0.length l0) (hc0 : l0.length ≤ c0) (h : fill_Words.f l0 = some r) :
  Calls Try.prog 50 #[.slice A0 l0.length c0] w fun e w' => ∃ v0_ : Value, e = .returned (v0_) ∧ Kd.R (Kd.slice 33 k33) 23 w' w.heap.size (fun _ => True) v0_ r ∧ Below w.heap.size w w' := by
 obtain ⟨h1, rfl⟩ := Go.Proofs.YteadghhmoggjnaaB.of_if h
 exact Words_any A0 c0 l0 w hr0 hc0 h1
end Go.Proofs.Yteadghhmoggjnaa.Q
end
section
namespace Go.Proofs.YteadghhmoggjnaaB
open Go.RowKit
open Yteadghhmoggjnaa.Q
open YteadghhmoggjnaaW.PrintWords YteadghhmoggjnaaW.PrintLast YteadghhmoggjnaaW.PrintMore
set_option maxHeartbeats 1600000
theorem okL_of {l : List S33} (hl : l.length ≤ 1000000) (h6 : ∀ x ∈ l, x.f6.length ≤ 17592186044415) : okL l = true := by
 unfold okL
 rw [Bool.and_eq_true]
 exact ⟨decide_eq_true (by omega), List.all_eq_true.2 (fun x hx => decide_eq_true (by have := h6 x hx; omega))⟩
theorem checkI_small {l : List S33} (hl : l.length ≤ 5000) (ns : List Int) : checkI l ns = if (l.all validB && allI farL ns) = true then 0 else 1 := by
 unfold checkI
 cases l.all validB <;> cases allI farL ns <;> first | rfl | (show (if (false : Bool) = true then _ else _) = _; rw [if_neg (by decide), if_neg (by omega)]; rfl)
def takeAns (l : List S33) (len : Int) (h : S33) : List S33 × List S33 × Bool × Int :=
 if (hyphB h && (l.all validB && allI farL [len])) = true then ((takeL l len h).1, (takeL l len h).2.1, (takeL l len h).2.2, 0) else ([], [], false, 1)
theorem parts_fit {l : List S33} {len : Int} {h : S33} (hl : l.length ≤ 900000) (h6 : ∀ x ∈ l, x.f6.length ≤ 17592186044415) (hh : h.f6.length ≤ 17592186044415) :
  ((takeL l len h).1.length ≤ 1000000 ∧ ∀ x ∈ (takeL l len h).1, x.f6.length ≤ 17592186044415) ∧ ((takeL l len h).2.1.length ≤ l.length ∧ ∀ x ∈ (takeL l len h).2.1, x ∈ l) := by
 obtain ⟨p1, p2, p3, p4⟩ := parts_take l len h
 refine ⟨⟨by omega, fun x hx => ?_⟩, p3, p4⟩
 rcases p2 x hx with h1 | rfl
 ·exact h6 x h1
 ·exact hh
theorem fill_Take_f (l : List S33) (len : Int) (h : S33) (hl : l.length ≤ 5000) (h6 : ∀ x ∈ l, x.f6.length ≤ 17592186044415) (hh : h.f6.length ≤ 17592186044415) :
  fill_Take.f l len h.f0 h.f1 h.f2 h.f3 h.f4 h.f5 h.f6 = some (takeAns l len h) := by
 obtain ⟨⟨p1, p2⟩, p3, p4⟩ := parts_fit (len := len) (h := h) (by omega : l.length ≤ 900000) h6 hh
 have hc : fill_check.f l [len] = some (checkI l [len]) := rfl
 have ht : fill_take.f l len h.f0 h.f1 h.f2 h.f3 h.f4 h.f5 h.f6 = some (takeL l len h) := if_pos (okL_of (by omega) h6)
 have ho1 : fill_own.f (takeL l len h).1 = some (takeL l len h).1 := if_pos (okL_of p1 p2)
 have ho2 : fill_own.f (takeL l len h).2.1 = some (takeL l len h).2.1 := if_pos (okL_of (by omega) (fun x hx => h6 x (p4 x hx)))
 unfold fill_Take.f takeAns
 rw [fill_hyph, Option.bind_some]
 cases hyphB h
 ·rw [if_neg (by decide), Bool.false_and, if_neg (by decide)]
 ·rw [if_pos rfl, hc, Option.bind_some, checkI_small hl, Bool.true_and]
  cases l.all validB && allI farL [len]
  ·rw [if_neg (by decide), if_neg (by decide), if_neg (by decide)]
  ·rw [if_pos rfl, if_pos rfl, if_pos rfl, ht, Option.bind_some, ho1, Option.bind_some, ho2, Option.bind_some]
theorem far_one {len : Int} : allI farL [len] = (!(decide (len < 0)) && !(decide (10000000 < len))) := by
 unfold allI farL
 rw [List.all_cons, List.all_nil, Bool.and_true, Bool.not_or]
theorem far_two {a b : Int} : allI farL [a, b] = ((!(decide (a < 0)) && !(decide (10000000 < a))) && (!(decide (b < 0)) && !(decide (10000000 < b)))) := by
 unfold allI farL
 rw [List.all_cons, List.all_cons, List.all_nil, Bool.and_true, Bool.not_or, Bool.not_or]
theorem ref_Take_f (l : List S33) (len : Int) (h : S33) (hl : l.length ≤ 5000) (hf : ∀ x ∈ l, Fit x) (hh : Fit h) :
  Ev (fun k => r_Take.f k l len h.f0 h.f1 h.f2 h.f3 h.f4 h.f5 h.f6) (takeAns l len h) := by
 have hbad : ∀ c, Ev (fun k => r_Take.j0 k l len c true h.f0 h.f1 h.f2 h.f3 h.f4 h.f5 h.f6) (([], [], false, 1) : List S33 × List S33 × Bool × Int) := fun c =>
  Ev.step (fun k => by rw [r_Take.j0]) (ev_pos rfl (ev_now rfl))
 refine Ev.bind (ref_check l (by omega) hf) ?_
 unfold takeAns
 rw [far_one]
 cases hv : l.all validB
 ·rw [if_neg (by decide : ¬ (false : Bool) = true), Bool.false_and, Bool.and_false, if_neg (by decide : ¬ (false : Bool) = true)]
  exact ev_pos rfl (hbad 1)
 ·rw [if_pos (rfl : (true : Bool) = true), if_neg (by omega : ¬ 5000 < l.length), Bool.true_and]
  refine ev_neg (by decide) ?_
  by_cases h1 : len < 0
  ·rw [decide_eq_true h1, Bool.not_true, Bool.false_and, Bool.and_false, if_neg (by decide : ¬ (false : Bool) = true)]
   exact ev_pos h1 (hbad 0)
  ·rw [decide_eq_false h1, Bool.not_false, Bool.true_and]
   refine ev_neg h1 ?_
   by_cases h2 : len > 10000000
   ·rw [decide_eq_true (show 10000000 < len from h2), Bool.not_true, Bool.and_false, if_neg (by decide : ¬ (false : Bool) = true)]
    exact ev_pos h2 (hbad 0)
   ·rw [decide_eq_false (show ¬ 10000000 < len from h2), Bool.not_false, Bool.and_true]
    refine ev_neg h2 (Ev.bind (ref_hyph h hh) ?_)
    cases hb : hyphB h
    ·rw [if_neg (by decide : ¬ (false : Bool) = true)]
     exact hbad 0
    ·rw [if_pos (rfl : (true : Bool) = true)]
     obtain ⟨⟨p1, p2⟩, p3, p4⟩ := parts_fit (len := len) (h := h) (by omega : l.length ≤ 900000) (fun x hx => (hf x hx).1) hh.1
     refine Ev.step (fun k => by rw [r_Take.j0]) (ev_neg (by decide) (ev_pos rfl ?_))
     refine Ev.bind (ref_take l len h (by omega) (hyphB_kind hb)) (Ev.bind (ref_own _ p1 p2) (Ev.bind (ref_own _ (by omega) (fun x hx => (hf x (p4 x hx)).1)) (ev_now rfl)))
theorem rest_ev (l : List S33) : Ev (fun k => fill_rest.f k l) (restL l) := Ev.of (fun k => fill_rest.mono l k) (frest_f l)
theorem ansCut_lt (R : List S33) (h : S33) (i : Nat) (p : Int) (hR : 0 < R.length) : (ansCut R h i p).2.1.length < R.length := by
 unfold ansCut
 have h1 := restL_le (R.drop (begA R i + p.toNat + 1))
 rw [List.length_drop] at h1
 show (restL (R.drop (begA R i + p.toNat + 1))).length < _
 omega
theorem ansAt_lt (R : List S33) (len : Int) (h : S33) (i : Nat) (hi : i < R.length) (hb : begA R i ≠ R.length) : (ansAt R len h i).2.1.length < R.length := by
 unfold ansAt
 split
 ·exact ansCut_lt R h i _ (by omega)
 ·split
  ·have h1 := restL_le (R.drop i)
   rw [List.length_drop] at h1
   show (restL (R.drop i)).length < _
   omega
  ·split
   ·exact ansCut_lt R h i _ (by omega)
   ·have h1 := restL_le (R.drop (stopA R i))
    rw [List.length_drop] at h1
    have h2 := stopA_gt hi hb
    show (restL (R.drop (stopA R i))).length < _
    omega
theorem takeGo_lt (R : List S33) (len : Int) (h : S33) (hR : 0 < R.length) : ∀ f i, (takeGo R len h f i).2.1.length < R.length
 | 0, i => hR
 | f + 1, i => by
  unfold takeGo
  split
  ·rename_i hi
   split
   ·exact hR
   ·rename_i hb
    split
    ·exact takeGo_lt R len h hR f _
    ·exact ansAt_lt R len h i hi hb
  ·exact hR
theorem takeL_lt (l : List S33) (len : Int) (h : S33) (hl : 0 < (restL l).length) : (takeL l len h).2.1.length < l.length := by
 have h1 := takeGo_lt (restL l) len h hl ((restL l).length + 1) 0
 have h2 := restL_le l
 unfold takeL
 omega
theorem break_both (h : S33) (a1 a2 : Int) (hh : Fit h) (hk : h.f0 = 0 ∨ h.f0 = 5) (M : Nat) (hM : M ≤ 17592186044415) (hm : h.f6.length ≤ M) : ∀ (n : Nat) (l : List S33) (acc : List (List S33)) (len : Int), l.length ≤ n → l.length ≤ 5000 → acc.length + l.length ≤ 100000 →
  (∀ x ∈ l, Fit x) → (∀ x ∈ l, x.f6.length ≤ M) → (∀ y ∈ acc, y.length ≤ 5001 ∧ ∀ x ∈ y, x.f6.length ≤ M) → len = (if acc.length = 0 then a1 else a2) →
  ∃ R, Ev (fun k => fill_Break.l0 k l a2 acc len h.f0 h.f1 h.f2 h.f3 h.f4 h.f5 h.f6) (R, 0) ∧ Ev (fun k => r_Break.l0 k l a1 a2 acc h.f0 h.f1 h.f2 h.f3 h.f4 h.f5 h.f6) (R, 0) ∧
   R.length ≤ 100000 ∧ ∀ y ∈ R, y.length ≤ 5001 ∧ ∀ x ∈ y, x.f6.length ≤ M := by
 intro n
 induction n with
 | zero =>
  intro l acc len hn hl ha hf h6 hy hlen
  have hnil : l = [] := List.eq_nil_of_length_eq_zero (by omega)
  subst hnil
  refine ⟨acc, ?_, ?_, by omega, hy⟩
  ·refine Ev.step (fun k => by rw [fill_Break.l0]) (Ev.bind (rest_ev []) ?_)
   exact ev_neg (by simp [restL]) (ev_now rfl)
  ·refine Ev.step (fun k => by rw [r_Break.l0]) (Ev.bind (ref_front [] (by simp)) ?_)
   exact ev_neg (by simp [restL]) (ev_now rfl)
 | succ n ih =>
  intro l acc len hn hl ha hf h6 hy hlen
  by_cases hr : 0 < (restL l).length
  ·have hlt := takeL_lt l len h hr
   obtain ⟨⟨p1, p2⟩, p3, p4⟩ := parts_fit (len := len) (h := h) (by omega : l.length ≤ 900000) (fun x hx => (hf x hx).1) hh.1
   obtain ⟨q1, q2, -, -⟩ := parts_take l len h
   have ht : fill_take.f l len h.f0 h.f1 h.f2 h.f3 h.f4 h.f5 h.f6 = some (takeL l len h) := if_pos (okL_of (by omega) (fun x hx => (hf x hx).1))
   have ho : fill_own.f (takeL l len h).1 = some (takeL l len h).1 := if_pos (okL_of p1 p2)
   have hline : (takeL l len h).1.length ≤ 5001 ∧ ∀ x ∈ (takeL l len h).1, x.f6.length ≤ M := ⟨by omega, fun x hx => by
    rcases q2 x hx with e | rfl
    ·exact h6 x e
    ·exact hm⟩
   obtain ⟨R, r1, r2, r3, r4⟩ := ih (takeL l len h).2.1 (acc ++ [(takeL l len h).1]) a2 (by omega) (by omega) (by rw [List.length_append, List.length_singleton]; omega) (fun x hx => hf x (p4 x hx)) (fun x hx => h6 x (p4 x hx))
    (fun y hyy => by
     rcases List.mem_append.1 hyy with e | e
     ·exact hy y e
     ·rw [List.mem_singleton.1 e]; exact hline) (by rw [if_neg (by rw [List.length_append, List.length_singleton]; omega)])
   refine ⟨R, ?_, ?_, r3, r4⟩
   ·refine Ev.step (fun k => by rw [fill_Break.l0]) (Ev.bind (rest_ev l) ?_)
    refine ev_pos (by omega) (ev_known ht (ev_known ho ?_))
    exact ev_pos (by omega) r1
   ·refine Ev.step (fun k => by rw [r_Break.l0]) (Ev.bind (ref_front l (by omega)) ?_)
    refine ev_pos (by omega) ?_
    by_cases h0 : acc.length = 0
    ·rw [if_pos h0] at hlen
     subst hlen
     refine ev_pos (by omega) (Ev.bind (ref_take l len h (by omega) hk) ?_)
     refine Ev.bind (ref_own _ p1 p2) ?_
     exact ev_pos (by omega) r2
    ·rw [if_neg h0] at hlen
     subst hlen
     refine ev_neg (by omega) (Ev.bind (ref_take l len h (by omega) hk) ?_)
     refine Ev.bind (ref_own _ p1 p2) ?_
     exact ev_pos (by omega) r2
  ·refine ⟨acc, ?_, ?_, by omega, hy⟩
   ·refine Ev.step (fun k => by rw [fill_Break.l0]) (Ev.bind (rest_ev l) ?_)
    exact ev_neg (by omega) (ev_now rfl)
   ·refine Ev.step (fun k => by rw [r_Break.l0]) (Ev.bind (ref_front l (by omega)) ?_)
    exact ev_neg (by omega) (ev_now rfl)
theorem break_f (l : List S33) (a1 a2 : Int) (h : S33) (hl : l.length ≤ 5000) (hf : ∀ x ∈ l, Fit x) (hh : Fit h) (M : Nat) (hM : M ≤ 17592186044415) (h6 : ∀ x ∈ l, x.f6.length ≤ M) (hm : h.f6.length ≤ M) :
  ∃ R, Ev (fun k => fill_Break.f k l a1 a2 h.f0 h.f1 h.f2 h.f3 h.f4 h.f5 h.f6) R ∧ Ev (fun k => r_Break.f k l a1 a2 h.f0 h.f1 h.f2 h.f3 h.f4 h.f5 h.f6) R ∧
   R.1.length ≤ 100000 ∧ ∀ y ∈ R.1, y.length ≤ 5001 ∧ ∀ x ∈ y, x.f6.length ≤ M := by
 have hbad : ∀ c, Ev (fun k => r_Break.j0 k l a1 a2 c true h.f0 h.f1 h.f2 h.f3 h.f4 h.f5 h.f6) (([], 1) : List (List S33) × Int) := fun c =>
  Ev.step (fun k => by rw [r_Break.j0]) (ev_pos rfl (ev_now rfl))
 have hc : fill_check.f l [a1, a2] = some (checkI l [a1, a2]) := rfl
 have hnone : (hyphB h && (l.all validB && allI farL [a1, a2])) = false → Ev (fun k => fill_Break.f k l a1 a2 h.f0 h.f1 h.f2 h.f3 h.f4 h.f5 h.f6) (([], 1) : List (List S33) × Int) := fun hn => by
  refine ev_known (fill_hyph h) ?_
  cases hb : hyphB h
  ·exact ev_neg (by decide) (ev_now rfl)
  ·rw [hb, Bool.true_and] at hn
   refine ev_pos rfl (ev_known hc ?_)
   rw [checkI_small hl, hn]
   exact ev_neg (by decide) (ev_now rfl)
 cases hall : (hyphB h && (l.all validB && allI farL [a1, a2]))
 ·refine ⟨([], 1), hnone hall, ?_, by simp, fun y hy => by cases hy⟩
  refine Ev.bind (ref_check l (by omega) hf) ?_
  rw [far_two] at hall
  cases hv : l.all validB
  ·rw [if_neg (by decide : ¬ (false : Bool) = true)]
   exact ev_pos rfl (hbad 1)
  ·rw [if_pos (rfl : (true : Bool) = true), if_neg (by omega : ¬ 5000 < l.length)]
   refine ev_neg (by decide) ?_
   by_cases c1 : a1 < 0
   ·exact ev_pos c1 (hbad 0)
   ·refine ev_neg c1 ?_
    by_cases c2 : a1 > 10000000
    ·exact ev_pos c2 (hbad 0)
    ·refine ev_neg c2 ?_
     by_cases c3 : a2 < 0
     ·exact ev_pos c3 (hbad 0)
     ·refine ev_neg c3 ?_
      by_cases c4 : a2 > 10000000
      ·exact ev_pos c4 (hbad 0)
      ·refine ev_neg c4 (Ev.bind (ref_hyph h hh) ?_)
       have : hyphB h = false := by
        rw [hv, decide_eq_false c1, decide_eq_false c3, decide_eq_false (show ¬ 10000000 < a1 from c2), decide_eq_false (show ¬ 10000000 < a2 from c4)] at hall
        simpa using hall
       rw [this]
       exact hbad 0
 ·rw [Bool.and_eq_true, Bool.and_eq_true] at hall
  obtain ⟨hb, hv, hfar⟩ := hall
  obtain ⟨R, r1, r2, r3, r4⟩ := break_both h a1 a2 hh (hyphB_kind hb) M hM hm l.length l [] a1 (Nat.le_refl _) hl (by rw [List.length_nil]; omega) hf h6 (fun y hy => by cases hy) rfl
  refine ⟨(R, 0), ?_, ?_, r3, r4⟩
  ·refine ev_known (fill_hyph h) ?_
   rw [hb]
   refine ev_pos rfl (ev_known hc ?_)
   rw [checkI_small hl, hv, hfar]
   exact ev_pos rfl r1
  ·refine Ev.bind (ref_check l (by omega) hf) ?_
   rw [hv, if_pos (rfl : (true : Bool) = true), if_neg (by omega : ¬ 5000 < l.length)]
   rw [far_two] at hfar
   simp only [Bool.and_eq_true, Bool.not_eq_true', decide_eq_false_iff_not] at hfar
   refine ev_neg (by decide) (ev_neg (by omega) (ev_neg (by omega) (ev_neg (by omega) (ev_neg (by omega) (Ev.bind (ref_hyph h hh) ?_)))))
   rw [hb]
   exact Ev.step (fun k => by rw [r_Break.j0]) (ev_neg (by decide) (ev_pos rfl r2))
theorem rdL_at {l : List (List S33)} {j : Nat} {x : List S33} (h : l[j]? = some x) : rd_L4 l (j : Int) = x := by
 unfold rd_L4
 rw [Int.toNat_natCast, List.getD_eq_getElem?_getD, h]
 rfl
theorem rows_self (R : List (List S33)) (M : Nat) (hM : M ≤ 17592186044415) (hR : R.length ≤ 1000000) (hy : ∀ y ∈ R, y.length ≤ 1000000 ∧ ∀ x ∈ y, x.f6.length ≤ M) : Ev (fun k => w_rows.f k R R) true := by
 have key : ∀ (d i : Nat), i + d = R.length → Ev (fun k => w_rows.l0 k R R (i : Int)) true := by
  intro d
  induction d with
  | zero => exact fun i h => Ev.step (fun k => by rw [w_rows.l0]) (ev_neg (by omega) (ev_now rfl))
  | succ d ih =>
   intro i h
   have hi : i < R.length := by omega
   have hx : R[i]? = some R[i] := List.getElem?_eq_getElem hi
   have hm := hy R[i] (List.getElem_mem hi)
   refine Ev.step (fun k => by rw [w_rows.l0]) (ev_pos (by omega) (ev_pos (by omega) (ev_pos (by omega) ?_)))
   rw [rdL_at hx, w64_succ (by omega)]
   exact Ev.bind (same_ev _ (by omega) (fun x hx => by have := hm.2 x hx; omega)) (ev_pos rfl (ih (i + 1) (by omega)))
 exact ev_pos rfl (key R.length 0 (by omega))
theorem grow_ev (l : List S33) (hl : l.length ≤ 1000000) : Ev (fun k => r_Growing.f k l) (growL l) := ⟨(l.length + 4) * l.length + 1, fun k hk => ref_growing l hl hk⟩
theorem gaps_fill (l : List S33) (hl : l.length ≤ 1000000) (h6 : ∀ x ∈ l, x.f6.length ≤ 17592186044415) : fill_Gaps.f l = some ((growL l).length : Int) := by
 unfold fill_Gaps.f
 have : fill_growing.f l = some (growL l) := if_pos (okL_of hl h6)
 rw [this, Option.bind_some]
theorem gaps_ref (l : List S33) (hl : l.length ≤ 1000000) : Ev (fun k => r_Gaps.f k l) ((growL l).length : Int) := Ev.bind (grow_ev l hl) (ev_now rfl)
theorem words_cons (f : Nat) (R : List S33) (h : 0 < R.length) : wordsGo (f + 1) R = R.take (R.findIdx blankB) :: wordsGo f (restL (R.drop (R.findIdx blankB))) := by
 cases R with
 | nil => simp at h
 | cons x r => rfl
theorem ref_Words_l (l : List S33) (hl : l.length ≤ 1000000) (h6 : ∀ x ∈ l, x.f6.length ≤ 17592186044415) : ∀ (d at_ : Nat) (acc : List (List S33)) (f : Nat), l.length ≤ at_ + d → at_ ≤ l.length → l.length < at_ + f → acc.length + l.length ≤ at_ + 1000000 →
  Ev (fun k => r_Words.l0 k l acc (at_ : Int)) (acc ++ wordsGo f (restL (l.drop at_)))
 | 0, at_, acc, f, hd, ha, hf, hacc => by
  obtain rfl : at_ = l.length := by omega
  obtain ⟨f, rfl⟩ : ∃ f', f = f' + 1 := ⟨f - 1, by omega⟩
  refine Ev.step (fun k => by rw [r_Words.l0]) (ev_neg (by omega) (ev_now ?_))
  rw [List.drop_length]
  show acc = acc ++ []
  rw [List.append_nil]
 | d + 1, at_, acc, f, hd, ha, hf, hacc => by
  by_cases hlt : at_ < l.length
  ·obtain ⟨f, rfl⟩ : ∃ f', f = f' + 1 := ⟨f - 1, by omega⟩
   have hdr : l.drop at_ = l[at_] :: l.drop (at_ + 1) := List.drop_eq_getElem_cons hlt
   refine Ev.step (fun k => by rw [r_Words.l0]) (ev_pos (by omega) (Ev.bind (ref_word l hl at_ ha) ?_))
   by_cases hb : blankB l[at_] = true
   ·have h0 : (l.drop at_).findIdx blankB = 0 := by rw [hdr, List.findIdx_cons, hb]; rfl
    rw [h0, hdr, restL_cons, if_pos hb]
    refine ev_neg (by decide) ?_
    rw [show wrap64 ((at_ : Int) + mx ((0 : Nat) : Int) 1) = ((at_ + 1 : Nat) : Int) by
     have : mx ((0 : Nat) : Int) 1 = 1 := rfl
     rw [this, w64_succ (by omega)]]
    exact ref_Words_l l hl h6 d (at_ + 1) acc (f + 1) (by omega) (by omega) (by omega) (by omega)
   ·have hb' : blankB l[at_] = false := by simpa using hb
    have hpos : 0 < (l.drop at_).findIdx blankB := findIdx_pos (by rw [List.length_drop]; omega) (fun x hx => by
     rw [hdr] at hx
     have : l[at_] = x := Option.some.inj hx
     rw [← this]; exact hb')
    have hle := List.findIdx_le_length (p := blankB) (xs := l.drop at_)
    have hlen : (l.drop at_).length = l.length - at_ := List.length_drop
    have hrest : restL (l.drop at_) = l.drop at_ := by rw [hdr, restL_cons, if_neg hb]
    rw [hrest, words_cons f _ (by rw [hlen]; omega)]
    generalize (l.drop at_).findIdx blankB = n at *
    rw [show wrap64 ((at_ : Int) + (n : Int)) = ((at_ + n : Nat) : Int) by rw [w64_id (by omega) (by omega)]; omega]
    refine ev_pos (by omega) (ev_pos (by omega) (ev_pos (by omega) (ev_pos (by omega) ?_)))
    rw [Int.toNat_natCast, Int.toNat_natCast, List.drop_take, Nat.add_sub_cancel_left]
    have hmx : mx (n : Int) 1 = (n : Int) := by unfold mx; split <;> omega
    rw [hmx, show wrap64 ((at_ : Int) + (n : Int)) = ((at_ + n : Nat) : Int) by rw [w64_id (by omega) (by omega)]; omega]
    refine Ev.bind (ref_own _ (by rw [List.length_take, hlen]; omega) (fun x hx => h6 x (List.mem_of_mem_drop (List.mem_of_mem_take hx)))) (ev_pos (by omega) ?_)
    have ih := ref_Words_l l hl h6 d (at_ + n) (acc ++ [(l.drop at_).take n]) f (by omega) (by omega) (by omega) (by rw [List.length_append, List.length_singleton]; omega)
    rw [List.append_assoc] at ih
    rw [List.drop_drop]
    exact ih
  ·obtain rfl : at_ = l.length := by omega
   exact ref_Words_l l hl h6 0 l.length acc f (by omega) ha hf hacc
theorem ref_Words_f (l : List S33) (hl : l.length ≤ 1000000) (h6 : ∀ x ∈ l, x.f6.length ≤ 17592186044415) : Ev (fun k => r_Words.f k l) (wordsL l) := by
 have h := ref_Words_l l hl h6 l.length 0 [] (l.length + 1) (by omega) (by omega) (by omega) (by rw [List.length_nil]; omega)
 exact h
theorem fill_Words_f (l : List S33) (hl : l.length ≤ 1000000) (h6 : ∀ x ∈ l, x.f6.length ≤ 17592186044415) : fill_Words.f l = some (wordsL l) := if_pos (okL_of hl h6)
theorem words_parts : ∀ (f : Nat) (R : List S33), (wordsGo f R).length ≤ R.length ∧ ∀ y ∈ wordsGo f R, y.length ≤ R.length ∧ ∀ x ∈ y, x ∈ R
 | 0, R => ⟨by simp [wordsGo], fun y hy => by cases hy⟩
 | f + 1, [] => ⟨by simp [wordsGo], fun y hy => by cases hy⟩
 | f + 1, x :: r => by
  obtain ⟨a1, a2⟩ := words_parts f (restL ((x :: r).drop ((x :: r).findIdx blankB)))
  have h1 := restL_le ((x :: r).drop ((x :: r).findIdx blankB))
  rw [List.length_drop] at h1
  have hcl : (x :: r).length = r.length + 1 := rfl
  have hsub : ∀ z ∈ restL ((x :: r).drop ((x :: r).findIdx blankB)), z ∈ x :: r := fun z hz => List.mem_of_mem_drop (restL_mem hz)
  rw [words_cons f _ (by simp)]
  by_cases h0 : (x :: r).findIdx blankB = 0
  ·have hb : blankB x = true := by
    rw [List.findIdx_cons] at h0
    cases hbx : blankB x
    ·rw [hbx] at h0; simp at h0
    ·rfl
   have h2 : (restL ((x :: r).drop ((x :: r).findIdx blankB))).length ≤ r.length := by
    rw [h0, List.drop_zero, restL_cons, if_pos hb]
    exact restL_le r
   refine ⟨by rw [List.length_cons, List.length_cons]; omega, fun y hy => ?_⟩
   rcases List.mem_cons.1 hy with rfl | hy
   ·exact ⟨by rw [List.length_take]; omega, fun z hz => List.mem_of_mem_take hz⟩
   ·obtain ⟨b1, b2⟩ := a2 y hy
    exact ⟨by rw [List.length_cons]; omega, fun z hz => hsub z (b2 z hz)⟩
  ·refine ⟨by rw [List.length_cons]; omega, fun y hy => ?_⟩
   rcases List.mem_cons.1 hy with rfl | hy
   ·exact ⟨by rw [List.length_take]; omega, fun z hz => List.mem_of_mem_take hz⟩
   ·obtain ⟨b1, b2⟩ := a2 y hy
    exact ⟨by omega, fun z hz => hsub z (b2 z hz)⟩
end Go.Proofs.YteadghhmoggjnaaB
end
