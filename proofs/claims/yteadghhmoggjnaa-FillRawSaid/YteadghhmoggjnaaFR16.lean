import Derived.Test.YteadghhmoggjnaaFR10
import Derived.Test.YteadghhmoggjnaaFR5
import Derived.Test.YteadghhmoggjnaaFR15
set_option linter.unusedVariables false
set_option linter.unusedSimpArgs false
section
section
namespace Go.Proofs.Yteadghhmoggjnaa.Q
open Go.RowKit Go.Proofs.YteadghhmoggjnaaW.PrintWords Go.Proofs.YteadghhmoggjnaaW.PrintLast Go.Proofs.YteadghhmoggjnaaW.PrintMore
attribute [local go_sem] max2_int max_two
set_option maxHeartbeats 8000000
set_option maxRecDepth 100000
def s_Same.l0 : Nat → List (S33) → List (S33) → Int → Option (Bool)
 | 0, _, _, _ => none
 | k + 1, x0, x1, x5 => if x5 < (x0.length : Int) then (if 0 ≤ x5 then (if x5 < (x1.length : Int) then ((s_SameBox.f k ((rd_T33 x0 x5).f0) ((rd_T33 x0 x5).f1) ((rd_T33 x0 x5).f2) ((rd_T33 x0 x5).f3) ((rd_T33 x0 x5).f4) ((rd_T33 x0 x5).f5) ((rd_T33 x0 x5).f6) ((rd_T33 x1 x5).f0) ((rd_T33 x1 x5).f1) ((rd_T33 x1 x5).f2) ((rd_T33 x1 x5).f3) ((rd_T33 x1 x5).f4) ((rd_T33 x1 x5).f5) ((rd_T33 x1 x5).f6)).bind fun t143 => (if t143 = true then (s_Same.l0 k x0 x1 (wrap64 (x5 + 1))) else (some false))) else (none)) else (none)) else (some true)
def s_Same.f (k : Nat) (l0 : List (S33)) (l1 : List (S33)) : Option (Bool) := if (l0.length : Int) = (l1.length : Int) then (s_Same.l0 k l0 l1 0) else (some false)
def s_Same.T6 : Bool × List (List Nat × List Nat) := (true, [([], []), ([], []), ([0, 1], [0, 1]), ([2], [2]), ([], []), ([], []), ([4, 5], [4, 5]), ([6], [6]), ([3, 7], [3, 7]), ([8], [8])])
def s_Same.B6 : List Nat := [0, 0, 3, 7, 0, 0, 48, 112, 255, 511]
theorem s_Same.tab6 : rtab .any (opsOf Try.f14 6) = s_Same.T6 := by kernel_rfl
theorem s_Same.bits6 : waitsOk s_Same.T6.2 s_Same.B6 = true := by kernel_rfl
theorem s_Same.calls (k : Nat) (A0 : Option Addr) (c0 : Nat) (l0 : List (S33)) (A1 : Option Addr) (c1 : Nat) (l1 : List (S33)) (r : Bool) (w : World) (hr0 : Kd.C k33 w A0 l0.length l0) (hc0 : l0.length ≤ c0) (hr1 : Kd.C k33 w A1 l1.length l1) (hc1 : l1.length ≤ c1) (h : s_Same.f k l0 l1 = some r) :
  Calls Try.prog 14 #[.slice A0 l0.length c0, .slice A1 l1.length c1] w fun e w' => e = .returned (.bool r) ∧ Below w.heap.size w w' := by
 have hu33 := Try.underlying33
 have HR0 := As.mk hr0
 have HC0 := As.mk hc0
 clear hr0 hc0
 have HR1 := As.mk hr1
 have HC1 := As.mk hc1
 clear hr1 hc1
 have HB := As.mk (Below.refl w.heap.size w)
 have H : (if (l0.length : Int) = (l1.length : Int) then (s_Same.l0 k l0 l1 0) else (some false)) = some r := h
 clear h
 by_cases c3 : (l0.length : Int) = (l1.length : Int)
 rotate_left
 ·rw [if_neg c3] at H
  have c3b0 : ((l0.length : Int) == (l1.length : Int)) = false := beq_eq_false_iff_ne.mpr c3
  have c3b1 : ((l0.length : Int) != (l1.length : Int)) = true := bne_iff_ne.mpr c3
  have c3b2 : (l0.length == l1.length) = false := by first | simpa using c3 | (simp at c3 ⊢; omega)
  obtain rfl := Option.some.inj H
  go_enter Try.func14, Try.ntmps14
  go_wp2
  go_ret
  exact ⟨by first | rfl | (simp [*] <;> rfl), bl HB.out⟩
 rw [if_pos c3] at H
 have c3b0 : ((l0.length : Int) == (l1.length : Int)) = true := beq_iff_eq.mpr c3
 have c3b1 : ((l0.length : Int) != (l1.length : Int)) = false := bne_eq_false_iff_eq.mpr c3
 have c3b2 : (l0.length == l1.length) = true := by first | simpa using c3 | (simp at c3 ⊢; omega)
 clear c3
 have H' := As.mk H
 clear H
 go_enter Try.func14, Try.ntmps14
 go_wp2
 go_loopg [5] k (fun kq v5 w' => ∃ (x5_1 : Int), v5 = .int .i64 x5_1 ∧ As (s_Same.l0 kq l0 l1 x5_1 = some r) ∧ As (kq ≤ k) ∧ As (Below w.heap.size w w'))
 case atStart => exact ⟨(0), (by first | rfl | simp [*]), H', ⟨Nat.le_refl _⟩, ⟨bl HB.out⟩⟩
 case round =>
  clear H'
  obtain ⟨x5_1, rfl, HA, HK1, HB⟩ := hrel
  cases gk with
  | zero => exact absurd HA.out (by simp [s_Same.l0])
  | succ k1 =>
   have H := HA.out
   clear HA
   simp only [s_Same.l0] at H
   by_cases c4 : x5_1 < (l0.length : Int)
   rotate_left
   ·rw [if_neg c4] at H
    have c4b0 := decide_eq_false c4
    clear c4
    obtain rfl := Option.some.inj H
    go_wp2
    go_ret
    exact ⟨by first | rfl | (simp [*] <;> rfl), bl HB.out⟩
   rw [if_pos c4] at H
   have c4b0 := decide_eq_true c4
   clear c4
   by_cases c5 : 0 ≤ x5_1
   rotate_left
   ·rw [if_neg c5] at H
    exact absurd H (by simp)
   rw [if_pos c5] at H
   have c5b0 := decide_eq_true c5
   clear c5
   by_cases c6 : x5_1 < (l1.length : Int)
   rotate_left
   ·rw [if_neg c6] at H
    exact absurd H (by simp)
   rw [if_pos c6] at H
   have c6b0 := decide_eq_true c6
   clear c6
   replace H := Option.bind_eq_some_iff.mp H
   obtain ⟨t143, A70, H⟩ := H
   try dsimp only at H
   have A7 := As.mk A70
   clear A70
   by_cases c8 : t143 = true
   rotate_left
   ·replace c8 := Bool.eq_false_iff.mpr c8
    subst c8
    have H1 : (some false) = some r := by rw [if_neg (show ¬ (false = true) by decide)] at H; exact H
    clear H
    have H := H1
    clear H1
    obtain rfl := Option.some.inj H
    try go_wp2
    have n0_ := As.mk (below_drew1 HB.out)
    clear HB
    have HB := n0_
    clear n0_
    have p141 : 0 ≤ (x5_1 : Int) := of_decide_eq_true (by with_reducible assumption)
    have q141 : x5_1 < (l0.length : Int) := of_decide_eq_true (by with_reducible assumption)
    obtain ⟨ad141, A141_6, c141_6, e141, hx141_0, hx141_1, hx141_2, hx141_3, hx141_4, hx141_5, hx141_6, hl141_6, hi141_6⟩ := at_T33 HR0.out x5_1 p141 q141
    have hw141_6 := hx141_6
    have hw141_5 := hx141_5
    have hw141_4 := hx141_4
    have hw141_3 := hx141_3
    have hw141_2 := hx141_2
    have hw141_1 := hx141_1
    have hw141_0 := hx141_0
    cases e141
    replace hx141_0 := ct HB.out hx141_0
    replace hx141_1 := ct HB.out hx141_1
    replace hx141_2 := ct HB.out hx141_2
    replace hx141_3 := ct HB.out hx141_3
    replace hx141_4 := ct HB.out hx141_4
    replace hx141_5 := ct HB.out hx141_5
    replace hx141_6 := ct HB.out hx141_6
    have HR141_6 := As.mk hi141_6
    have HC141_6 := As.mk hl141_6
    clear hi141_6 hl141_6
    replace p141 := eq_true p141
    replace q141 := eq_true q141
    have p142 : 0 ≤ (x5_1 : Int) := of_decide_eq_true (by with_reducible assumption)
    have q142 : x5_1 < (l1.length : Int) := of_decide_eq_true (by with_reducible assumption)
    obtain ⟨ad142, A142_6, c142_6, e142, hx142_0, hx142_1, hx142_2, hx142_3, hx142_4, hx142_5, hx142_6, hl142_6, hi142_6⟩ := at_T33 HR1.out x5_1 p142 q142
    have hw142_6 := hx142_6
    have hw142_5 := hx142_5
    have hw142_4 := hx142_4
    have hw142_3 := hx142_3
    have hw142_2 := hx142_2
    have hw142_1 := hx142_1
    have hw142_0 := hx142_0
    cases e142
    replace hx142_0 := ct HB.out hx142_0
    replace hx142_1 := ct HB.out hx142_1
    replace hx142_2 := ct HB.out hx142_2
    replace hx142_3 := ct HB.out hx142_3
    replace hx142_4 := ct HB.out hx142_4
    replace hx142_5 := ct HB.out hx142_5
    replace hx142_6 := ct HB.out hx142_6
    have HR142_6 := As.mk hi142_6
    have HC142_6 := As.mk hl142_6
    clear hi142_6 hl142_6
    replace p142 := eq_true p142
    replace q142 := eq_true q142
    refine start_ (n := 10) (S := fun w' => w'.cell? (ad141.add ((x5_1).toNat * 7)) = some (.int .i64 ((rd_T33 l0 x5_1).f0)) ∧ w'.cell? ⟨(ad141.add ((x5_1).toNat * 7)).block, (ad141.add ((x5_1).toNat * 7)).off + 1, none⟩ = some (.int .i64 ((rd_T33 l0 x5_1).f1)) ∧ w'.cell? ⟨(ad141.add ((x5_1).toNat * 7)).block, (ad141.add ((x5_1).toNat * 7)).off + 2, none⟩ = some (.int .i64 ((rd_T33 l0 x5_1).f2)) ∧ w'.cell? ⟨(ad141.add ((x5_1).toNat * 7)).block, (ad141.add ((x5_1).toNat * 7)).off + 3, none⟩ = some (.int .i64 ((rd_T33 l0 x5_1).f3)) ∧ w'.cell? ⟨(ad141.add ((x5_1).toNat * 7)).block, (ad141.add ((x5_1).toNat * 7)).off + 4, none⟩ = some (.string ((rd_T33 l0 x5_1).f4)) ∧ w'.cell? ⟨(ad141.add ((x5_1).toNat * 7)).block, (ad141.add ((x5_1).toNat * 7)).off + 5, none⟩ = some (.string ((rd_T33 l0 x5_1).f5)) ∧ w'.cell? ⟨(ad141.add ((x5_1).toNat * 7)).block, (ad141.add ((x5_1).toNat * 7)).off + 6, none⟩ = some (.slice A141_6 ((rd_T33 l0 x5_1).f6).length c141_6) ∧ w'.cell? (ad142.add ((x5_1).toNat * 7)) = some (.int .i64 ((rd_T33 l1 x5_1).f0)) ∧ w'.cell? ⟨(ad142.add ((x5_1).toNat * 7)).block, (ad142.add ((x5_1).toNat * 7)).off + 1, none⟩ = some (.int .i64 ((rd_T33 l1 x5_1).f1)) ∧ w'.cell? ⟨(ad142.add ((x5_1).toNat * 7)).block, (ad142.add ((x5_1).toNat * 7)).off + 2, none⟩ = some (.int .i64 ((rd_T33 l1 x5_1).f2)) ∧ w'.cell? ⟨(ad142.add ((x5_1).toNat * 7)).block, (ad142.add ((x5_1).toNat * 7)).off + 3, none⟩ = some (.int .i64 ((rd_T33 l1 x5_1).f3)) ∧ w'.cell? ⟨(ad142.add ((x5_1).toNat * 7)).block, (ad142.add ((x5_1).toNat * 7)).off + 4, none⟩ = some (.string ((rd_T33 l1 x5_1).f4)) ∧ w'.cell? ⟨(ad142.add ((x5_1).toNat * 7)).block, (ad142.add ((x5_1).toNat * 7)).off + 5, none⟩ = some (.string ((rd_T33 l1 x5_1).f5)) ∧ w'.cell? ⟨(ad142.add ((x5_1).toNat * 7)).block, (ad142.add ((x5_1).toNat * 7)).off + 6, none⟩ = some (.slice A142_6 ((rd_T33 l1 x5_1).f6).length c142_6)) (ds := []) #[false, false, false, false, false, false, false, false, false, false] (by kernel_rfl) rfl rfl ⟨(ct HB.out hw141_0), (ct HB.out hw141_1), (ct HB.out hw141_2), (ct HB.out hw141_3), (ct HB.out hw141_4), (ct HB.out hw141_5), (ct HB.out hw141_6), (ct HB.out hw142_0), (ct HB.out hw142_1), (ct HB.out hw142_2), (ct HB.out hw142_3), (ct HB.out hw142_4), (ct HB.out hw142_5), (ct HB.out hw142_6)⟩ (fun hHeld => ?_); refine with_tabW s_Same.tab6 s_Same.bits6 (fun HT_ HW_ => ?_)
    generalize wr.drew = w11 at HB HR141_6 HR142_6 hx141_0 hx141_1 hx141_2 hx141_3 hx141_4 hx141_5 hx141_6 hx142_0 hx142_1 hx142_2 hx142_3 hx142_4 hx142_5 hx142_6 hHeld ⊢
    refine pu 0 17 HT_.out (h := ?_)
    refine pu 1 18 HT_.out (h := ?_)
    refine pu 2 19 HT_.out (h := ?_)
    refine pu 4 21 HT_.out (h := ?_)
    refine pu 5 22 HT_.out (h := ?_)
    refine pu 6 23 HT_.out (h := ?_)
    refine tk 3 20 HT_.out HW_.out hHeld (hy := by rintro w' ⟨s0, s1, s2, s3, s4, s5, s6, s7, s8, s9, s10, s11, s12, s13⟩; go_simp; with_reducible rfl) (h := ?_)
    refine tk 7 24 HT_.out HW_.out hHeld (hy := by rintro w' ⟨s0, s1, s2, s3, s4, s5, s6, s7, s8, s9, s10, s11, s12, s13⟩; go_simp; with_reducible rfl) (h := ?_)
    refine one_ (i := 8) (N := some 25) #[true, true, true, true, true, true, true, true, true, false] rfl rfl (one_of HT_.out (by kernel_rfl)) (by decide) (fun K hK => ?_)
    refine goes_ Try.func36 (by kernel_rfl) rfl #[.agg #[.int .i64 ((rd_T33 l0 x5_1).f0), .int .i64 ((rd_T33 l0 x5_1).f1), .int .i64 ((rd_T33 l0 x5_1).f2), .int .i64 ((rd_T33 l0 x5_1).f3), .string ((rd_T33 l0 x5_1).f4), .string ((rd_T33 l0 x5_1).f5), .slice A141_6 ((rd_T33 l0 x5_1).f6).length c141_6], .agg #[.int .i64 ((rd_T33 l1 x5_1).f0), .int .i64 ((rd_T33 l1 x5_1).f1), .int .i64 ((rd_T33 l1 x5_1).f2), .int .i64 ((rd_T33 l1 x5_1).f3), .string ((rd_T33 l1 x5_1).f4), .string ((rd_T33 l1 x5_1).f5), .slice A142_6 ((rd_T33 l1 x5_1).f6).length c142_6]] (by rfl) rfl rfl (by (try simp only [List.map_toArray, List.map_cons, List.map_nil]); first | done | rfl | (simp only [List.length_drop, List.length_take]; rfl)) ?_
    with_reducible refine (s_SameBox.calls k1 ((rd_T33 l0 x5_1).f0) ((rd_T33 l0 x5_1).f1) ((rd_T33 l0 x5_1).f2) ((rd_T33 l0 x5_1).f3) ((rd_T33 l0 x5_1).f4) ((rd_T33 l0 x5_1).f5) _ _ ((rd_T33 l0 x5_1).f6) ((rd_T33 l1 x5_1).f0) ((rd_T33 l1 x5_1).f1) ((rd_T33 l1 x5_1).f2) ((rd_T33 l1 x5_1).f3) ((rd_T33 l1 x5_1).f4) ((rd_T33 l1 x5_1).f5) _ _ ((rd_T33 l1 x5_1).f6) false _ ?side1 ?side2 ?side3 ?side4 A7.out).mono ?_
    (case side1 => exact Kd.C_below HR141_6.out (bl HB.out))
    (case side2 => exact HC141_6.out)
    (case side3 => exact Kd.C_below HR142_6.out (bl HB.out))
    (case side4 => exact HC142_6.out)
    rintro e w12 ⟨rfl, hb⟩
    refine ⟨_, rfl, ?_⟩
    have n0_ := As.mk (below_step (bl HB.out) hb)
    clear HB
    have HB := n0_
    clear n0_
    (try clear hb)
    (try clear hb2)
    (try clear hk)
    (try clear hi)
    refine hK.out _ _ ⟨(ct HB.out hw141_0), (ct HB.out hw141_1), (ct HB.out hw141_2), (ct HB.out hw141_3), (ct HB.out hw141_4), (ct HB.out hw141_5), (ct HB.out hw141_6), (ct HB.out hw142_0), (ct HB.out hw142_1), (ct HB.out hw142_2), (ct HB.out hw142_3), (ct HB.out hw142_4), (ct HB.out hw142_5), (ct HB.out hw142_6)⟩ (fun hHeld => ?_)
    clear hK K
    refine norm_ (a' := ?_) ?_ ?_
    rotate_left
    ·show Act.put _ (some 25) _ = _
     simp only [Act.put, List.setIfInBounds_toArray, List.set_cons_zero, List.set_cons_succ, i64_w, i32_w]
     rfl
    refine pu 9 26 HT_.out (h := ?_)
    refine done_ (done_of HT_.out (by kernel_rfl)) ?_
    try go_wp2
    go_ret
    exact ⟨by first | rfl | (simp [*] <;> rfl), bl HB.out⟩
   subst c8
   have H1 : (s_Same.l0 k1 l0 l1 (wrap64 (x5_1 + 1))) = some r := by rw [if_pos rfl] at H; exact H
   clear H
   have H := H1
   clear H1
   have H' := As.mk H
   clear H
   try go_wp2
   have n0_ := As.mk (below_drew1 HB.out)
   clear HB
   have HB := n0_
   clear n0_
   have p141 : 0 ≤ (x5_1 : Int) := of_decide_eq_true (by with_reducible assumption)
   have q141 : x5_1 < (l0.length : Int) := of_decide_eq_true (by with_reducible assumption)
   obtain ⟨ad141, A141_6, c141_6, e141, hx141_0, hx141_1, hx141_2, hx141_3, hx141_4, hx141_5, hx141_6, hl141_6, hi141_6⟩ := at_T33 HR0.out x5_1 p141 q141
   have hw141_6 := hx141_6
   have hw141_5 := hx141_5
   have hw141_4 := hx141_4
   have hw141_3 := hx141_3
   have hw141_2 := hx141_2
   have hw141_1 := hx141_1
   have hw141_0 := hx141_0
   cases e141
   replace hx141_0 := ct HB.out hx141_0
   replace hx141_1 := ct HB.out hx141_1
   replace hx141_2 := ct HB.out hx141_2
   replace hx141_3 := ct HB.out hx141_3
   replace hx141_4 := ct HB.out hx141_4
   replace hx141_5 := ct HB.out hx141_5
   replace hx141_6 := ct HB.out hx141_6
   have HR141_6 := As.mk hi141_6
   have HC141_6 := As.mk hl141_6
   clear hi141_6 hl141_6
   replace p141 := eq_true p141
   replace q141 := eq_true q141
   have p142 : 0 ≤ (x5_1 : Int) := of_decide_eq_true (by with_reducible assumption)
   have q142 : x5_1 < (l1.length : Int) := of_decide_eq_true (by with_reducible assumption)
   obtain ⟨ad142, A142_6, c142_6, e142, hx142_0, hx142_1, hx142_2, hx142_3, hx142_4, hx142_5, hx142_6, hl142_6, hi142_6⟩ := at_T33 HR1.out x5_1 p142 q142
   have hw142_6 := hx142_6
   have hw142_5 := hx142_5
   have hw142_4 := hx142_4
   have hw142_3 := hx142_3
   have hw142_2 := hx142_2
   have hw142_1 := hx142_1
   have hw142_0 := hx142_0
   cases e142
   replace hx142_0 := ct HB.out hx142_0
   replace hx142_1 := ct HB.out hx142_1
   replace hx142_2 := ct HB.out hx142_2
   replace hx142_3 := ct HB.out hx142_3
   replace hx142_4 := ct HB.out hx142_4
   replace hx142_5 := ct HB.out hx142_5
   replace hx142_6 := ct HB.out hx142_6
   have HR142_6 := As.mk hi142_6
   have HC142_6 := As.mk hl142_6
   clear hi142_6 hl142_6
   replace p142 := eq_true p142
   replace q142 := eq_true q142
   refine start_ (n := 10) (S := fun w' => w'.cell? (ad141.add ((x5_1).toNat * 7)) = some (.int .i64 ((rd_T33 l0 x5_1).f0)) ∧ w'.cell? ⟨(ad141.add ((x5_1).toNat * 7)).block, (ad141.add ((x5_1).toNat * 7)).off + 1, none⟩ = some (.int .i64 ((rd_T33 l0 x5_1).f1)) ∧ w'.cell? ⟨(ad141.add ((x5_1).toNat * 7)).block, (ad141.add ((x5_1).toNat * 7)).off + 2, none⟩ = some (.int .i64 ((rd_T33 l0 x5_1).f2)) ∧ w'.cell? ⟨(ad141.add ((x5_1).toNat * 7)).block, (ad141.add ((x5_1).toNat * 7)).off + 3, none⟩ = some (.int .i64 ((rd_T33 l0 x5_1).f3)) ∧ w'.cell? ⟨(ad141.add ((x5_1).toNat * 7)).block, (ad141.add ((x5_1).toNat * 7)).off + 4, none⟩ = some (.string ((rd_T33 l0 x5_1).f4)) ∧ w'.cell? ⟨(ad141.add ((x5_1).toNat * 7)).block, (ad141.add ((x5_1).toNat * 7)).off + 5, none⟩ = some (.string ((rd_T33 l0 x5_1).f5)) ∧ w'.cell? ⟨(ad141.add ((x5_1).toNat * 7)).block, (ad141.add ((x5_1).toNat * 7)).off + 6, none⟩ = some (.slice A141_6 ((rd_T33 l0 x5_1).f6).length c141_6) ∧ w'.cell? (ad142.add ((x5_1).toNat * 7)) = some (.int .i64 ((rd_T33 l1 x5_1).f0)) ∧ w'.cell? ⟨(ad142.add ((x5_1).toNat * 7)).block, (ad142.add ((x5_1).toNat * 7)).off + 1, none⟩ = some (.int .i64 ((rd_T33 l1 x5_1).f1)) ∧ w'.cell? ⟨(ad142.add ((x5_1).toNat * 7)).block, (ad142.add ((x5_1).toNat * 7)).off + 2, none⟩ = some (.int .i64 ((rd_T33 l1 x5_1).f2)) ∧ w'.cell? ⟨(ad142.add ((x5_1).toNat * 7)).block, (ad142.add ((x5_1).toNat * 7)).off + 3, none⟩ = some (.int .i64 ((rd_T33 l1 x5_1).f3)) ∧ w'.cell? ⟨(ad142.add ((x5_1).toNat * 7)).block, (ad142.add ((x5_1).toNat * 7)).off + 4, none⟩ = some (.string ((rd_T33 l1 x5_1).f4)) ∧ w'.cell? ⟨(ad142.add ((x5_1).toNat * 7)).block, (ad142.add ((x5_1).toNat * 7)).off + 5, none⟩ = some (.string ((rd_T33 l1 x5_1).f5)) ∧ w'.cell? ⟨(ad142.add ((x5_1).toNat * 7)).block, (ad142.add ((x5_1).toNat * 7)).off + 6, none⟩ = some (.slice A142_6 ((rd_T33 l1 x5_1).f6).length c142_6)) (ds := []) #[false, false, false, false, false, false, false, false, false, false] (by kernel_rfl) rfl rfl ⟨(ct HB.out hw141_0), (ct HB.out hw141_1), (ct HB.out hw141_2), (ct HB.out hw141_3), (ct HB.out hw141_4), (ct HB.out hw141_5), (ct HB.out hw141_6), (ct HB.out hw142_0), (ct HB.out hw142_1), (ct HB.out hw142_2), (ct HB.out hw142_3), (ct HB.out hw142_4), (ct HB.out hw142_5), (ct HB.out hw142_6)⟩ (fun hHeld => ?_); refine with_tabW s_Same.tab6 s_Same.bits6 (fun HT_ HW_ => ?_)
   generalize wr.drew = w9 at HB HR141_6 HR142_6 hx141_0 hx141_1 hx141_2 hx141_3 hx141_4 hx141_5 hx141_6 hx142_0 hx142_1 hx142_2 hx142_3 hx142_4 hx142_5 hx142_6 hHeld ⊢
   refine pu 0 17 HT_.out (h := ?_)
   refine pu 1 18 HT_.out (h := ?_)
   refine pu 2 19 HT_.out (h := ?_)
   refine pu 4 21 HT_.out (h := ?_)
   refine pu 5 22 HT_.out (h := ?_)
   refine pu 6 23 HT_.out (h := ?_)
   refine tk 3 20 HT_.out HW_.out hHeld (hy := by rintro w' ⟨s0, s1, s2, s3, s4, s5, s6, s7, s8, s9, s10, s11, s12, s13⟩; go_simp; with_reducible rfl) (h := ?_)
   refine tk 7 24 HT_.out HW_.out hHeld (hy := by rintro w' ⟨s0, s1, s2, s3, s4, s5, s6, s7, s8, s9, s10, s11, s12, s13⟩; go_simp; with_reducible rfl) (h := ?_)
   refine one_ (i := 8) (N := some 25) #[true, true, true, true, true, true, true, true, true, false] rfl rfl (one_of HT_.out (by kernel_rfl)) (by decide) (fun K hK => ?_)
   refine goes_ Try.func36 (by kernel_rfl) rfl #[.agg #[.int .i64 ((rd_T33 l0 x5_1).f0), .int .i64 ((rd_T33 l0 x5_1).f1), .int .i64 ((rd_T33 l0 x5_1).f2), .int .i64 ((rd_T33 l0 x5_1).f3), .string ((rd_T33 l0 x5_1).f4), .string ((rd_T33 l0 x5_1).f5), .slice A141_6 ((rd_T33 l0 x5_1).f6).length c141_6], .agg #[.int .i64 ((rd_T33 l1 x5_1).f0), .int .i64 ((rd_T33 l1 x5_1).f1), .int .i64 ((rd_T33 l1 x5_1).f2), .int .i64 ((rd_T33 l1 x5_1).f3), .string ((rd_T33 l1 x5_1).f4), .string ((rd_T33 l1 x5_1).f5), .slice A142_6 ((rd_T33 l1 x5_1).f6).length c142_6]] (by rfl) rfl rfl (by (try simp only [List.map_toArray, List.map_cons, List.map_nil]); first | done | rfl | (simp only [List.length_drop, List.length_take]; rfl)) ?_
   with_reducible refine (s_SameBox.calls k1 ((rd_T33 l0 x5_1).f0) ((rd_T33 l0 x5_1).f1) ((rd_T33 l0 x5_1).f2) ((rd_T33 l0 x5_1).f3) ((rd_T33 l0 x5_1).f4) ((rd_T33 l0 x5_1).f5) _ _ ((rd_T33 l0 x5_1).f6) ((rd_T33 l1 x5_1).f0) ((rd_T33 l1 x5_1).f1) ((rd_T33 l1 x5_1).f2) ((rd_T33 l1 x5_1).f3) ((rd_T33 l1 x5_1).f4) ((rd_T33 l1 x5_1).f5) _ _ ((rd_T33 l1 x5_1).f6) true _ ?side1 ?side2 ?side3 ?side4 A7.out).mono ?_
   (case side1 => exact Kd.C_below HR141_6.out (bl HB.out))
   (case side2 => exact HC141_6.out)
   (case side3 => exact Kd.C_below HR142_6.out (bl HB.out))
   (case side4 => exact HC142_6.out)
   rintro e w10 ⟨rfl, hb⟩
   refine ⟨_, rfl, ?_⟩
   have n0_ := As.mk (below_step (bl HB.out) hb)
   clear HB
   have HB := n0_
   clear n0_
   (try clear hb)
   (try clear hb2)
   (try clear hk)
   (try clear hi)
   refine hK.out _ _ ⟨(ct HB.out hw141_0), (ct HB.out hw141_1), (ct HB.out hw141_2), (ct HB.out hw141_3), (ct HB.out hw141_4), (ct HB.out hw141_5), (ct HB.out hw141_6), (ct HB.out hw142_0), (ct HB.out hw142_1), (ct HB.out hw142_2), (ct HB.out hw142_3), (ct HB.out hw142_4), (ct HB.out hw142_5), (ct HB.out hw142_6)⟩ (fun hHeld => ?_)
   clear hK K
   refine norm_ (a' := ?_) ?_ ?_
   rotate_left
   ·show Act.put _ (some 25) _ = _
    simp only [Act.put, List.setIfInBounds_toArray, List.set_cons_zero, List.set_cons_succ, i64_w, i32_w]
    rfl
   refine pu 9 26 HT_.out (h := ?_)
   refine done_ (done_of HT_.out (by kernel_rfl)) ?_
   try go_wp2
   go_roundg k1
   case measure => have := HK1.out; omega
   case rel => exact ⟨(wrap64 (x5_1 + 1)), (by first | rfl | simp [*]), H', ⟨by have := HK1.out; omega⟩, ⟨bl HB.out⟩⟩
end Go.Proofs.Yteadghhmoggjnaa.Q
end
end
section
section
namespace Go.Proofs.Yteadghhmoggjnaa.Q
open Go.RowKit Go.Proofs.YteadghhmoggjnaaW.PrintWords Go.Proofs.YteadghhmoggjnaaW.PrintLast Go.Proofs.YteadghhmoggjnaaW.PrintMore
attribute [local go_sem] max2_int max_two
set_option maxHeartbeats 8000000
set_option maxRecDepth 100000
def r_solid.f (a0_0 : Int) (a0_1 : Int) (a0_2 : Int) (a0_3 : Int) (a0_4 : ByteArray) (a0_5 : ByteArray) (l0_6 : List Int) : Option (Bool) := if a0_0 = 1 then (some false) else (some (a0_0 != 5))
theorem r_solid.calls (a0_0 : Int) (a0_1 : Int) (a0_2 : Int) (a0_3 : Int) (a0_4 : ByteArray) (a0_5 : ByteArray) (A0_6 : Option Addr) (c0_6 : Nat) (l0_6 : List Int) (r : Bool) (w : World) (hr0_6 : Kd.C (Kd.int .i64) w A0_6 l0_6.length l0_6) (hc0_6 : l0_6.length ≤ c0_6) (h : r_solid.f a0_0 a0_1 a0_2 a0_3 a0_4 a0_5 l0_6 = some r) :
  Calls Try.prog 35 #[.agg #[.int .i64 a0_0, .int .i64 a0_1, .int .i64 a0_2, .int .i64 a0_3, .string a0_4, .string a0_5, .slice A0_6 l0_6.length c0_6]] w fun e w' => e = .returned (.bool r) ∧ Below w.heap.size w w' := by
 have hu33 := Try.underlying33
 have HR0_6 := As.mk hr0_6
 have HC0_6 := As.mk hc0_6
 clear hr0_6 hc0_6
 have HB := As.mk (Below.refl w.heap.size w)
 have H : (if a0_0 = 1 then (some false) else (some (a0_0 != 5))) = some r := h
 clear h
 by_cases c2 : a0_0 = 1
 rotate_left
 ·rw [if_neg c2] at H
  have c2b0 : (a0_0 == 1) = false := beq_eq_false_iff_ne.mpr c2
  have c2b1 : (a0_0 != 1) = true := bne_iff_ne.mpr c2
  obtain rfl := Option.some.inj H
  go_enter Try.func35, Try.ntmps35
  go_wp2_with (first | ((with_reducible refine gate_dst (N := 1) rfl ?_); refine box_event ?hg (N := 1) ?hd (cs := #[.int .i64 a0_0, .int .i64 a0_1, .int .i64 a0_2, .int .i64 a0_3, .string a0_4, .string a0_5, .slice A0_6 l0_6.length c0_6]) (t := 33) ?hr ?_; (case hd => rfl); (case hg => rfl); (case hr => first | (go_simp; done) | (go_simp; rfl)); intro gb197 hg w5 hbox hb; have n0_ := As.mk (below_step (bl HB.out) hb); have n1_ := As.mk (hbox); have n2_ := As.mk ((by rw [hg]; exact (below_size (bl HB.out)) : w.heap.size ≤ gb197)); have n3_ := As.mk ((by rw [hg]; exact (below_size (bl HB.out)) : w.heap.size ≤ gb197)); clear HB; have HB := n0_; have BK197 := n1_; have GW197 := n2_; have GE197 := n3_; clear n0_ n1_ n2_ n3_; clear hb hbox hg; have z6 := box7 BK197.out))
  go_ret
  exact ⟨by first | rfl | (simp [*] <;> rfl), bl HB.out⟩
 rw [if_pos c2] at H
 have c2b0 : (a0_0 == 1) = true := beq_iff_eq.mpr c2
 have c2b1 : (a0_0 != 1) = false := bne_eq_false_iff_eq.mpr c2
 clear c2
 obtain rfl := Option.some.inj H
 go_enter Try.func35, Try.ntmps35
 go_wp2_with (first | ((with_reducible refine gate_dst (N := 1) rfl ?_); refine box_event ?hg (N := 1) ?hd (cs := #[.int .i64 a0_0, .int .i64 a0_1, .int .i64 a0_2, .int .i64 a0_3, .string a0_4, .string a0_5, .slice A0_6 l0_6.length c0_6]) (t := 33) ?hr ?_; (case hd => rfl); (case hg => rfl); (case hr => first | (go_simp; done) | (go_simp; rfl)); intro gb197 hg w3 hbox hb; have n0_ := As.mk (below_step (bl HB.out) hb); have n1_ := As.mk (hbox); have n2_ := As.mk ((by rw [hg]; exact (below_size (bl HB.out)) : w.heap.size ≤ gb197)); have n3_ := As.mk ((by rw [hg]; exact (below_size (bl HB.out)) : w.heap.size ≤ gb197)); clear HB; have HB := n0_; have BK197 := n1_; have GW197 := n2_; have GE197 := n3_; clear n0_ n1_ n2_ n3_; clear hb hbox hg; have z4 := box7 BK197.out))
 go_ret
 exact ⟨by first | rfl | (simp [*] <;> rfl), bl HB.out⟩
end Go.Proofs.Yteadghhmoggjnaa.Q
end
end
