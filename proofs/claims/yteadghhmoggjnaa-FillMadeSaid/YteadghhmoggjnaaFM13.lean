import Derived.Test.YteadghhmoggjnaaFM12
set_option linter.unusedVariables false
set_option linter.unusedSimpArgs false
section
section
namespace Go.Proofs.Yteadghhmoggjnaa.Q
open Go.RowKit YteadghhmoggjnaaW.PrintWords YteadghhmoggjnaaW.PrintLast YteadghhmoggjnaaW.PrintMore
attribute [local go_sem] max2_int max_two
set_option maxHeartbeats 8000000
set_option maxRecDepth 100000
def s_Same.l0 : Nat → List (S33) → List (S33) → Int → Option (Bool)
 | 0, _, _, _ => none
 | k + 1, x0, x1, x5 => if x5 < (x0.length : Int) then (if 0 ≤ x5 then (if x5 < (x1.length : Int) then ((s_SameBox.f k ((rT x0 x5).f0) ((rT x0 x5).f1) ((rT x0 x5).f2) ((rT x0 x5).f3) ((rT x0 x5).f4) ((rT x0 x5).f5) ((rT x0 x5).f6) ((rT x1 x5).f0) ((rT x1 x5).f1) ((rT x1 x5).f2) ((rT x1 x5).f3) ((rT x1 x5).f4) ((rT x1 x5).f5) ((rT x1 x5).f6)).bind fun t143 => (if t143 = true then (s_Same.l0 k x0 x1 (wrap64 (x5 + 1))) else (some false))) else (none)) else (none)) else (some true)
def s_Same.f (k : Nat) (l0 : List (S33)) (l1 : List (S33)) : Option (Bool) := if (l0.length : Int) = (l1.length : Int) then (s_Same.l0 k l0 l1 0) else (some false)
def s_Same.T6 : Bool × List (List Nat × List Nat) := (true, [([], []), ([], []), ([0, 1], [0, 1]), ([2], [2]), ([], []), ([], []), ([4, 5], [4, 5]), ([6], [6]), ([3, 7], [3, 7]), ([8], [8])])
def s_Same.B6 : List Nat := [0, 0, 3, 7, 0, 0, 48, 112, 255, 511]
theorem s_Same.tab6 : rtab .any (opsOf Try.f14 6) = s_Same.T6 := by kernel_rfl
theorem s_Same.bits6 : waitsOk s_Same.T6.2 s_Same.B6 = true := by kernel_rfl
theorem s_Same.calls (k : Nat) (A0 : Option Addr) (c0 : Nat) (l0 : List (S33)) (A1 : Option Addr) (c1 : Nat) (l1 : List (S33)) (r : Bool) (w : World) (hr0 : Kd.C k33 w A0 l0.length l0) (hc0 : l0.length ≤ c0) (hr1 : Kd.C k33 w A1 l1.length l1) (hc1 : l1.length ≤ c1) (h : s_Same.f k l0 l1 = some r) :
  Calls Try.prog 14 #[.slice A0 l0.length c0, .slice A1 l1.length c1] w fun e w' => e = .returned (.bool r) ∧ Below w.heap.size w w' := by
 have hu33 := Try.underlying33
 have HR0 := o_ hr0
 have HC0 := o_ hc0
 clear hr0 hc0
 have HR1 := o_ hr1
 have HC1 := o_ hc1
 clear hr1 hc1
 have HB := o_ (Below.refl w.heap.size w)
 have H : (if (l0.length : Int) = (l1.length : Int) then (s_Same.l0 k l0 l1 0) else (some false)) = some r := h
 clear h
 by_cases c3 : (l0.length : Int) = (l1.length : Int)
 rotate_left
 ·rw [if_neg c3] at H
  have c3b0 : ((l0.length : Int) == (l1.length : Int)) = false := beq_eq_false_iff_ne.mpr c3
  have c3b1 : ((l0.length : Int) != (l1.length : Int)) = true := bne_iff_ne.mpr c3
  have c3b2 : (l0.length == l1.length) = false := by first | simpa using c3 | (simp at c3 ⊢; omega)
  obtain rfl := Option.some.inj H
  go_enter Try.func14, Try.ntmps14
  go_wp2
  go_ret
  exact ⟨by first | rfl | (simp [*] <;> rfl), bl HB⟩
 rw [if_pos c3] at H
 have c3b0 : ((l0.length : Int) == (l1.length : Int)) = true := beq_iff_eq.mpr c3
 have c3b1 : ((l0.length : Int) != (l1.length : Int)) = false := bne_eq_false_iff_eq.mpr c3
 have c3b2 : (l0.length == l1.length) = true := by first | simpa using c3 | (simp at c3 ⊢; omega)
 clear c3
 have H' := o_ H
 clear H
 go_enter Try.func14, Try.ntmps14
 go_wp2
 go_loopg [5] k (fun kq v5 w' => ∃ (x5_1 : Int), v5 = .int .i64 x5_1 ∧ As (s_Same.l0 kq l0 l1 x5_1 = some r) ∧ As (kq ≤ k) ∧ As (Below w.heap.size w w'))
 case atStart => exact ⟨(0), (by first | rfl | simp [*]), H', ⟨Nat.le_refl _⟩, ⟨bl HB⟩⟩
 case round =>
  clear H'
  obtain ⟨x5_1, rfl, HA, HK1, HB⟩ := hrel
  cases gk with
  | zero => exact absurd HA.out (by simp [s_Same.l0])
  | succ k1 =>
   have H := HA.out
   clear HA
   simp only [s_Same.l0] at H
   by_cases c4 : x5_1 < (l0.length : Int)
   rotate_left
   ·rw [if_neg c4] at H
    have c4b0 := decide_eq_false c4
    clear c4
    obtain rfl := Option.some.inj H
    go_wp2
    go_ret
    exact ⟨by first | rfl | (simp [*] <;> rfl), bl HB⟩
   rw [if_pos c4] at H
   have c4b0 := decide_eq_true c4
   clear c4
   by_cases c5 : 0 ≤ x5_1
   rotate_left
   ·rw [if_neg c5] at H
    exact absurd H (by simp)
   rw [if_pos c5] at H
   have c5b0 := decide_eq_true c5
   clear c5
   by_cases c6 : x5_1 < (l1.length : Int)
   rotate_left
   ·rw [if_neg c6] at H
    exact absurd H (by simp)
   rw [if_pos c6] at H
   have c6b0 := decide_eq_true c6
   clear c6
   obtain ⟨t143, A70, H⟩ := qb H
   try dsimp only at H
   have A7 := o_ A70
   clear A70
   by_cases c8 : t143 = true
   rotate_left
   ·replace c8 := Bool.eq_false_iff.mpr c8
    subst c8
    have H1 : (some false) = some r := by rw [if_neg (show ¬ (false = true) by decide)] at H; exact H
    clear H
    have H := H1
    clear H1
    obtain rfl := Option.some.inj H
    try go_wp2
    have n0_ := o_ (below_drew1 HB.out)
    clear HB
    have HB := n0_
    clear n0_
    have p141 : 0 ≤ (x5_1 : Int) := oa
    have q141 : x5_1 < (l0.length : Int) := oa
    obtain ⟨ad141, A141_6, c141_6, e141, hx141_0, hx141_1, hx141_2, hx141_3, hx141_4, hx141_5, hx141_6, hl141_6, hi141_6⟩ := aT HR0.out x5_1 p141 q141
    have hw141_6 := hx141_6
    have hw141_5 := hx141_5
    have hw141_4 := hx141_4
    have hw141_3 := hx141_3
    have hw141_2 := hx141_2
    have hw141_1 := hx141_1
    have hw141_0 := hx141_0
    cases e141
    obtain ⟨hx141_0, hx141_1, hx141_2, hx141_3, hx141_4, hx141_5, hx141_6⟩ := ct7 HB hx141_0 hx141_1 hx141_2 hx141_3 hx141_4 hx141_5 hx141_6
    have HR141_6 := o_ hi141_6
    have HC141_6 := o_ hl141_6
    clear hi141_6 hl141_6
    replace p141 := eq_true p141
    replace q141 := eq_true q141
    have p142 : 0 ≤ (x5_1 : Int) := oa
    have q142 : x5_1 < (l1.length : Int) := oa
    obtain ⟨ad142, A142_6, c142_6, e142, hx142_0, hx142_1, hx142_2, hx142_3, hx142_4, hx142_5, hx142_6, hl142_6, hi142_6⟩ := aT HR1.out x5_1 p142 q142
    have hw142_6 := hx142_6
    have hw142_5 := hx142_5
    have hw142_4 := hx142_4
    have hw142_3 := hx142_3
    have hw142_2 := hx142_2
    have hw142_1 := hx142_1
    have hw142_0 := hx142_0
    cases e142
    obtain ⟨hx142_0, hx142_1, hx142_2, hx142_3, hx142_4, hx142_5, hx142_6⟩ := ct7 HB hx142_0 hx142_1 hx142_2 hx142_3 hx142_4 hx142_5 hx142_6
    have HR142_6 := o_ hi142_6
    have HC142_6 := o_ hl142_6
    clear hi142_6 hl142_6
    replace p142 := eq_true p142
    replace q142 := eq_true q142
    refine start_ (n := 10) (S := fun w' => w'.cell? (ad141.add ((x5_1).toNat * 7)) = some (.int .i64 ((rT l0 x5_1).f0)) ∧ w'.cell? ⟨(ad141.add ((x5_1).toNat * 7)).block, (ad141.add ((x5_1).toNat * 7)).off + 1, none⟩ = some (.int .i64 ((rT l0 x5_1).f1)) ∧ w'.cell? ⟨(ad141.add ((x5_1).toNat * 7)).block, (ad141.add ((x5_1).toNat * 7)).off + 2, none⟩ = some (.int .i64 ((rT l0 x5_1).f2)) ∧ w'.cell? ⟨(ad141.add ((x5_1).toNat * 7)).block, (ad141.add ((x5_1).toNat * 7)).off + 3, none⟩ = some (.int .i64 ((rT l0 x5_1).f3)) ∧ w'.cell? ⟨(ad141.add ((x5_1).toNat * 7)).block, (ad141.add ((x5_1).toNat * 7)).off + 4, none⟩ = some (.string ((rT l0 x5_1).f4)) ∧ w'.cell? ⟨(ad141.add ((x5_1).toNat * 7)).block, (ad141.add ((x5_1).toNat * 7)).off + 5, none⟩ = some (.string ((rT l0 x5_1).f5)) ∧ w'.cell? ⟨(ad141.add ((x5_1).toNat * 7)).block, (ad141.add ((x5_1).toNat * 7)).off + 6, none⟩ = some (.slice A141_6 ((rT l0 x5_1).f6).length c141_6) ∧ w'.cell? (ad142.add ((x5_1).toNat * 7)) = some (.int .i64 ((rT l1 x5_1).f0)) ∧ w'.cell? ⟨(ad142.add ((x5_1).toNat * 7)).block, (ad142.add ((x5_1).toNat * 7)).off + 1, none⟩ = some (.int .i64 ((rT l1 x5_1).f1)) ∧ w'.cell? ⟨(ad142.add ((x5_1).toNat * 7)).block, (ad142.add ((x5_1).toNat * 7)).off + 2, none⟩ = some (.int .i64 ((rT l1 x5_1).f2)) ∧ w'.cell? ⟨(ad142.add ((x5_1).toNat * 7)).block, (ad142.add ((x5_1).toNat * 7)).off + 3, none⟩ = some (.int .i64 ((rT l1 x5_1).f3)) ∧ w'.cell? ⟨(ad142.add ((x5_1).toNat * 7)).block, (ad142.add ((x5_1).toNat * 7)).off + 4, none⟩ = some (.string ((rT l1 x5_1).f4)) ∧ w'.cell? ⟨(ad142.add ((x5_1).toNat * 7)).block, (ad142.add ((x5_1).toNat * 7)).off + 5, none⟩ = some (.string ((rT l1 x5_1).f5)) ∧ w'.cell? ⟨(ad142.add ((x5_1).toNat * 7)).block, (ad142.add ((x5_1).toNat * 7)).off + 6, none⟩ = some (.slice A142_6 ((rT l1 x5_1).f6).length c142_6)) (ds := []) #[false, false, false, false, false, false, false, false, false, false] (by kernel_rfl) rfl rfl ⟨(ct HB hw141_0), (ct HB hw141_1), (ct HB hw141_2), (ct HB hw141_3), (ct HB hw141_4), (ct HB hw141_5), (ct HB hw141_6), (ct HB hw142_0), (ct HB hw142_1), (ct HB hw142_2), (ct HB hw142_3), (ct HB hw142_4), (ct HB hw142_5), (ct HB hw142_6)⟩ (fun hHeld => ?_); refine with_tabW s_Same.tab6 s_Same.bits6 (fun HT_ HW_ => ?_)
    generalize wr.drew = w11 at HB HR141_6 HR142_6 hx141_0 hx141_1 hx141_2 hx141_3 hx141_4 hx141_5 hx141_6 hx142_0 hx142_1 hx142_2 hx142_3 hx142_4 hx142_5 hx142_6 hHeld ⊢
    refine pu 0 17 HT_ (h := ?_)
    refine pu 1 18 HT_ (h := ?_)
    refine pu 2 19 HT_ (h := ?_)
    refine pu 4 21 HT_ (h := ?_)
    refine pu 5 22 HT_ (h := ?_)
    refine pu 6 23 HT_ (h := ?_)
    refine tk 3 20 HT_ HW_ hHeld (hy := by rintro w' ⟨s0, s1, s2, s3, s4, s5, s6, s7, s8, s9, s10, s11, s12, s13⟩; go_simp; with_reducible rfl) (h := ?_)
    refine tk 7 24 HT_ HW_ hHeld (hy := by rintro w' ⟨s0, s1, s2, s3, s4, s5, s6, s7, s8, s9, s10, s11, s12, s13⟩; go_simp; with_reducible rfl) (h := ?_)
    refine one_ (i := 8) (N := some 25) #[true, true, true, true, true, true, true, true, true, false] rfl rfl (one_of HT_.out (by kernel_rfl)) (by decide) (fun K hK => ?_)
    refine goes_ Try.func36 (by kernel_rfl) rfl #[.agg #[.int .i64 ((rT l0 x5_1).f0), .int .i64 ((rT l0 x5_1).f1), .int .i64 ((rT l0 x5_1).f2), .int .i64 ((rT l0 x5_1).f3), .string ((rT l0 x5_1).f4), .string ((rT l0 x5_1).f5), .slice A141_6 ((rT l0 x5_1).f6).length c141_6], .agg #[.int .i64 ((rT l1 x5_1).f0), .int .i64 ((rT l1 x5_1).f1), .int .i64 ((rT l1 x5_1).f2), .int .i64 ((rT l1 x5_1).f3), .string ((rT l1 x5_1).f4), .string ((rT l1 x5_1).f5), .slice A142_6 ((rT l1 x5_1).f6).length c142_6]] (by rfl) rfl rfl (by (try simp only [List.map_toArray, List.map_cons, List.map_nil]); first | done | rfl | (simp only [List.length_drop, List.length_take]; rfl)) ?_
    with_reducible refine (s_SameBox.calls k1 ((rT l0 x5_1).f0) ((rT l0 x5_1).f1) ((rT l0 x5_1).f2) ((rT l0 x5_1).f3) ((rT l0 x5_1).f4) ((rT l0 x5_1).f5) _ _ ((rT l0 x5_1).f6) ((rT l1 x5_1).f0) ((rT l1 x5_1).f1) ((rT l1 x5_1).f2) ((rT l1 x5_1).f3) ((rT l1 x5_1).f4) ((rT l1 x5_1).f5) _ _ ((rT l1 x5_1).f6) false _ ?side1 ?side2 ?side3 ?side4 A7.out).mono ?_
    (case side1 => exact Kd.C_below HR141_6.out (bl HB))
    (case side2 => exact HC141_6.out)
    (case side3 => exact Kd.C_below HR142_6.out (bl HB))
    (case side4 => exact HC142_6.out)
    rintro e w12 ⟨rfl, hb⟩
    refine ⟨_, rfl, ?_⟩
    have n0_ := o_ (below_step (bl HB) hb)
    clear HB
    have HB := n0_
    clear n0_
    (try clear hb)
    (try clear hb2)
    (try clear hk)
    (try clear hi)
    refine hK.out _ _ ⟨(ct HB hw141_0), (ct HB hw141_1), (ct HB hw141_2), (ct HB hw141_3), (ct HB hw141_4), (ct HB hw141_5), (ct HB hw141_6), (ct HB hw142_0), (ct HB hw142_1), (ct HB hw142_2), (ct HB hw142_3), (ct HB hw142_4), (ct HB hw142_5), (ct HB hw142_6)⟩ (fun hHeld => ?_)
    clear hK K
    refine norm_ (a' := ?_) ?_ ?_
    rotate_left
    ·show Act.put _ (some 25) _ = _
     simp only [Act.put, List.setIfInBounds_toArray, List.set_cons_zero, List.set_cons_succ, i64_w, i32_w]
     rfl
    refine pu 9 26 HT_ (h := ?_)
    refine done_ (done_of HT_.out (by kernel_rfl)) ?_
    try go_wp2
    go_ret
    exact ⟨by first | rfl | (simp [*] <;> rfl), bl HB⟩
   subst c8
   have H1 : (s_Same.l0 k1 l0 l1 (wrap64 (x5_1 + 1))) = some r := by rw [if_pos rfl] at H; exact H
   clear H
   have H := H1
   clear H1
   have H' := o_ H
   clear H
   try go_wp2
   have n0_ := o_ (below_drew1 HB.out)
   clear HB
   have HB := n0_
   clear n0_
   have p141 : 0 ≤ (x5_1 : Int) := oa
   have q141 : x5_1 < (l0.length : Int) := oa
   obtain ⟨ad141, A141_6, c141_6, e141, hx141_0, hx141_1, hx141_2, hx141_3, hx141_4, hx141_5, hx141_6, hl141_6, hi141_6⟩ := aT HR0.out x5_1 p141 q141
   have hw141_6 := hx141_6
   have hw141_5 := hx141_5
   have hw141_4 := hx141_4
   have hw141_3 := hx141_3
   have hw141_2 := hx141_2
   have hw141_1 := hx141_1
   have hw141_0 := hx141_0
   cases e141
   obtain ⟨hx141_0, hx141_1, hx141_2, hx141_3, hx141_4, hx141_5, hx141_6⟩ := ct7 HB hx141_0 hx141_1 hx141_2 hx141_3 hx141_4 hx141_5 hx141_6
   have HR141_6 := o_ hi141_6
   have HC141_6 := o_ hl141_6
   clear hi141_6 hl141_6
   replace p141 := eq_true p141
   replace q141 := eq_true q141
   have p142 : 0 ≤ (x5_1 : Int) := oa
   have q142 : x5_1 < (l1.length : Int) := oa
   obtain ⟨ad142, A142_6, c142_6, e142, hx142_0, hx142_1, hx142_2, hx142_3, hx142_4, hx142_5, hx142_6, hl142_6, hi142_6⟩ := aT HR1.out x5_1 p142 q142
   have hw142_6 := hx142_6
   have hw142_5 := hx142_5
   have hw142_4 := hx142_4
   have hw142_3 := hx142_3
   have hw142_2 := hx142_2
   have hw142_1 := hx142_1
   have hw142_0 := hx142_0
   cases e142
   obtain ⟨hx142_0, hx142_1, hx142_2, hx142_3, hx142_4, hx142_5, hx142_6⟩ := ct7 HB hx142_0 hx142_1 hx142_2 hx142_3 hx142_4 hx142_5 hx142_6
   have HR142_6 := o_ hi142_6
   have HC142_6 := o_ hl142_6
   clear hi142_6 hl142_6
   replace p142 := eq_true p142
   replace q142 := eq_true q142
   refine start_ (n := 10) (S := fun w' => w'.cell? (ad141.add ((x5_1).toNat * 7)) = some (.int .i64 ((rT l0 x5_1).f0)) ∧ w'.cell? ⟨(ad141.add ((x5_1).toNat * 7)).block, (ad141.add ((x5_1).toNat * 7)).off + 1, none⟩ = some (.int .i64 ((rT l0 x5_1).f1)) ∧ w'.cell? ⟨(ad141.add ((x5_1).toNat * 7)).block, (ad141.add ((x5_1).toNat * 7)).off + 2, none⟩ = some (.int .i64 ((rT l0 x5_1).f2)) ∧ w'.cell? ⟨(ad141.add ((x5_1).toNat * 7)).block, (ad141.add ((x5_1).toNat * 7)).off + 3, none⟩ = some (.int .i64 ((rT l0 x5_1).f3)) ∧ w'.cell? ⟨(ad141.add ((x5_1).toNat * 7)).block, (ad141.add ((x5_1).toNat * 7)).off + 4, none⟩ = some (.string ((rT l0 x5_1).f4)) ∧ w'.cell? ⟨(ad141.add ((x5_1).toNat * 7)).block, (ad141.add ((x5_1).toNat * 7)).off + 5, none⟩ = some (.string ((rT l0 x5_1).f5)) ∧ w'.cell? ⟨(ad141.add ((x5_1).toNat * 7)).block, (ad141.add ((x5_1).toNat * 7)).off + 6, none⟩ = some (.slice A141_6 ((rT l0 x5_1).f6).length c141_6) ∧ w'.cell? (ad142.add ((x5_1).toNat * 7)) = some (.int .i64 ((rT l1 x5_1).f0)) ∧ w'.cell? ⟨(ad142.add ((x5_1).toNat * 7)).block, (ad142.add ((x5_1).toNat * 7)).off + 1, none⟩ = some (.int .i64 ((rT l1 x5_1).f1)) ∧ w'.cell? ⟨(ad142.add ((x5_1).toNat * 7)).block, (ad142.add ((x5_1).toNat * 7)).off + 2, none⟩ = some (.int .i64 ((rT l1 x5_1).f2)) ∧ w'.cell? ⟨(ad142.add ((x5_1).toNat * 7)).block, (ad142.add ((x5_1).toNat * 7)).off + 3, none⟩ = some (.int .i64 ((rT l1 x5_1).f3)) ∧ w'.cell? ⟨(ad142.add ((x5_1).toNat * 7)).block, (ad142.add ((x5_1).toNat * 7)).off + 4, none⟩ = some (.string ((rT l1 x5_1).f4)) ∧ w'.cell? ⟨(ad142.add ((x5_1).toNat * 7)).block, (ad142.add ((x5_1).toNat * 7)).off + 5, none⟩ = some (.string ((rT l1 x5_1).f5)) ∧ w'.cell? ⟨(ad142.add ((x5_1).toNat * 7)).block, (ad142.add ((x5_1).toNat * 7)).off + 6, none⟩ = some (.slice A142_6 ((rT l1 x5_1).f6).length c142_6)) (ds := []) #[false, false, false, false, false, false, false, false, false, false] (by kernel_rfl) rfl rfl ⟨(ct HB hw141_0), (ct HB hw141_1), (ct HB hw141_2), (ct HB hw141_3), (ct HB hw141_4), (ct HB hw141_5), (ct HB hw141_6), (ct HB hw142_0), (ct HB hw142_1), (ct HB hw142_2), (ct HB hw142_3), (ct HB hw142_4), (ct HB hw142_5), (ct HB hw142_6)⟩ (fun hHeld => ?_); refine with_tabW s_Same.tab6 s_Same.bits6 (fun HT_ HW_ => ?_)
   generalize wr.drew = w9 at HB HR141_6 HR142_6 hx141_0 hx141_1 hx141_2 hx141_3 hx141_4 hx141_5 hx141_6 hx142_0 hx142_1 hx142_2 hx142_3 hx142_4 hx142_5 hx142_6 hHeld ⊢
   refine pu 0 17 HT_ (h := ?_)
   refine pu 1 18 HT_ (h := ?_)
   refine pu 2 19 HT_ (h := ?_)
   refine pu 4 21 HT_ (h := ?_)
   refine pu 5 22 HT_ (h := ?_)
   refine pu 6 23 HT_ (h := ?_)
   refine tk 3 20 HT_ HW_ hHeld (hy := by rintro w' ⟨s0, s1, s2, s3, s4, s5, s6, s7, s8, s9, s10, s11, s12, s13⟩; go_simp; with_reducible rfl) (h := ?_)
   refine tk 7 24 HT_ HW_ hHeld (hy := by rintro w' ⟨s0, s1, s2, s3, s4, s5, s6, s7, s8, s9, s10, s11, s12, s13⟩; go_simp; with_reducible rfl) (h := ?_)
   refine one_ (i := 8) (N := some 25) #[true, true, true, true, true, true, true, true, true, false] rfl rfl (one_of HT_.out (by kernel_rfl)) (by decide) (fun K hK => ?_)
   refine goes_ Try.func36 (by kernel_rfl) rfl #[.agg #[.int .i64 ((rT l0 x5_1).f0), .int .i64 ((rT l0 x5_1).f1), .int .i64 ((rT l0 x5_1).f2), .int .i64 ((rT l0 x5_1).f3), .string ((rT l0 x5_1).f4), .string ((rT l0 x5_1).f5), .slice A141_6 ((rT l0 x5_1).f6).length c141_6], .agg #[.int .i64 ((rT l1 x5_1).f0), .int .i64 ((rT l1 x5_1).f1), .int .i64 ((rT l1 x5_1).f2), .int .i64 ((rT l1 x5_1).f3), .string ((rT l1 x5_1).f4), .string ((rT l1 x5_1).f5), .slice A142_6 ((rT l1 x5_1).f6).length c142_6]] (by rfl) rfl rfl (by (try simp only [List.map_toArray, List.map_cons, List.map_nil]); first | done | rfl | (simp only [List.length_drop, List.length_take]; rfl)) ?_
   with_reducible refine (s_SameBox.calls k1 ((rT l0 x5_1).f0) ((rT l0 x5_1).f1) ((rT l0 x5_1).f2) ((rT l0 x5_1).f3) ((rT l0 x5_1).f4) ((rT l0 x5_1).f5) _ _ ((rT l0 x5_1).f6) ((rT l1 x5_1).f0) ((rT l1 x5_1).f1) ((rT l1 x5_1).f2) ((rT l1 x5_1).f3) ((rT l1 x5_1).f4) ((rT l1 x5_1).f5) _ _ ((rT l1 x5_1).f6) true _ ?side1 ?side2 ?side3 ?side4 A7.out).mono ?_
   (case side1 => exact Kd.C_below HR141_6.out (bl HB))
   (case side2 => exact HC141_6.out)
   (case side3 => exact Kd.C_below HR142_6.out (bl HB))
   (case side4 => exact HC142_6.out)
   rintro e w10 ⟨rfl, hb⟩
   refine ⟨_, rfl, ?_⟩
   have n0_ := o_ (below_step (bl HB) hb)
   clear HB
   have HB := n0_
   clear n0_
   (try clear hb)
   (try clear hb2)
   (try clear hk)
   (try clear hi)
   refine hK.out _ _ ⟨(ct HB hw141_0), (ct HB hw141_1), (ct HB hw141_2), (ct HB hw141_3), (ct HB hw141_4), (ct HB hw141_5), (ct HB hw141_6), (ct HB hw142_0), (ct HB hw142_1), (ct HB hw142_2), (ct HB hw142_3), (ct HB hw142_4), (ct HB hw142_5), (ct HB hw142_6)⟩ (fun hHeld => ?_)
   clear hK K
   refine norm_ (a' := ?_) ?_ ?_
   rotate_left
   ·show Act.put _ (some 25) _ = _
    simp only [Act.put, List.setIfInBounds_toArray, List.set_cons_zero, List.set_cons_succ, i64_w, i32_w]
    rfl
   refine pu 9 26 HT_ (h := ?_)
   refine done_ (done_of HT_.out (by kernel_rfl)) ?_
   try go_wp2
   go_roundg k1
   case measure => have := HK1.out; omega
   case rel => exact ⟨(wrap64 (x5_1 + 1)), (by first | rfl | simp [*]), H', ⟨by have := HK1.out; omega⟩, ⟨bl HB⟩⟩
end Go.Proofs.Yteadghhmoggjnaa.Q
end
end
section
section
namespace Go.Proofs.Yteadghhmoggjnaa.Q
open Go.RowKit YteadghhmoggjnaaW.PrintWords YteadghhmoggjnaaW.PrintLast YteadghhmoggjnaaW.PrintMore
attribute [local go_sem] max2_int max_two
set_option maxHeartbeats 8000000
set_option maxRecDepth 100000
def r_solid.f (a0_0 : Int) (a0_1 : Int) (a0_2 : Int) (a0_3 : Int) (a0_4 : ByteArray) (a0_5 : ByteArray) (l0_6 : List Int) : Option (Bool) := if a0_0 = 1 then (some false) else (some (a0_0 != 5))
theorem r_solid.calls (a0_0 : Int) (a0_1 : Int) (a0_2 : Int) (a0_3 : Int) (a0_4 : ByteArray) (a0_5 : ByteArray) (A0_6 : Option Addr) (c0_6 : Nat) (l0_6 : List Int) (r : Bool) (w : World) (hr0_6 : Kd.C (Kd.int .i64) w A0_6 l0_6.length l0_6) (hc0_6 : l0_6.length ≤ c0_6) (h : r_solid.f a0_0 a0_1 a0_2 a0_3 a0_4 a0_5 l0_6 = some r) :
  Calls Try.prog 35 #[.agg #[.int .i64 a0_0, .int .i64 a0_1, .int .i64 a0_2, .int .i64 a0_3, .string a0_4, .string a0_5, .slice A0_6 l0_6.length c0_6]] w fun e w' => e = .returned (.bool r) ∧ Below w.heap.size w w' := by
 have hu33 := Try.underlying33
 have HR0_6 := o_ hr0_6
 have HC0_6 := o_ hc0_6
 clear hr0_6 hc0_6
 have HB := o_ (Below.refl w.heap.size w)
 have H : (if a0_0 = 1 then (some false) else (some (a0_0 != 5))) = some r := h
 clear h
 by_cases c2 : a0_0 = 1
 rotate_left
 ·rw [if_neg c2] at H
  have c2b0 : (a0_0 == 1) = false := beq_eq_false_iff_ne.mpr c2
  have c2b1 : (a0_0 != 1) = true := bne_iff_ne.mpr c2
  obtain rfl := Option.some.inj H
  go_enter Try.func35, Try.ntmps35
  go_wp2_with (first | ((with_reducible refine gate_dst (N := 1) rfl ?_); refine box_event ?hg (N := 1) ?hd (cs := #[.int .i64 a0_0, .int .i64 a0_1, .int .i64 a0_2, .int .i64 a0_3, .string a0_4, .string a0_5, .slice A0_6 l0_6.length c0_6]) (t := 33) ?hr ?_; (case hd => rfl); (case hg => rfl); (case hr => first | (go_simp; done) | (go_simp; rfl)); intro gb197 hg w5 hbox hb; have n0_ := o_ (below_step (bl HB) hb); have n1_ := o_ (hbox); have n2_ := o_ ((by rw [hg]; exact (below_size (bl HB)) : w.heap.size ≤ gb197)); have n3_ := o_ ((by rw [hg]; exact (below_size (bl HB)) : w.heap.size ≤ gb197)); clear HB; have HB := n0_; have BK197 := n1_; have GW197 := n2_; have GE197 := n3_; clear n0_ n1_ n2_ n3_; clear hb hbox hg; have z6 := box7 BK197))
  go_ret
  exact ⟨by first | rfl | (simp [*] <;> rfl), bl HB⟩
 rw [if_pos c2] at H
 have c2b0 : (a0_0 == 1) = true := beq_iff_eq.mpr c2
 have c2b1 : (a0_0 != 1) = false := bne_eq_false_iff_eq.mpr c2
 clear c2
 obtain rfl := Option.some.inj H
 go_enter Try.func35, Try.ntmps35
 go_wp2_with (first | ((with_reducible refine gate_dst (N := 1) rfl ?_); refine box_event ?hg (N := 1) ?hd (cs := #[.int .i64 a0_0, .int .i64 a0_1, .int .i64 a0_2, .int .i64 a0_3, .string a0_4, .string a0_5, .slice A0_6 l0_6.length c0_6]) (t := 33) ?hr ?_; (case hd => rfl); (case hg => rfl); (case hr => first | (go_simp; done) | (go_simp; rfl)); intro gb197 hg w3 hbox hb; have n0_ := o_ (below_step (bl HB) hb); have n1_ := o_ (hbox); have n2_ := o_ ((by rw [hg]; exact (below_size (bl HB)) : w.heap.size ≤ gb197)); have n3_ := o_ ((by rw [hg]; exact (below_size (bl HB)) : w.heap.size ≤ gb197)); clear HB; have HB := n0_; have BK197 := n1_; have GW197 := n2_; have GE197 := n3_; clear n0_ n1_ n2_ n3_; clear hb hbox hg; have z4 := box7 BK197))
 go_ret
 exact ⟨by first | rfl | (simp [*] <;> rfl), bl HB⟩
end Go.Proofs.Yteadghhmoggjnaa.Q
end
end
section
section
namespace Go.Proofs.Yteadghhmoggjnaa.Q
open Go.RowKit YteadghhmoggjnaaW.PrintWords YteadghhmoggjnaaW.PrintLast YteadghhmoggjnaaW.PrintMore
attribute [local go_sem] max2_int max_two
set_option maxHeartbeats 8000000
set_option maxRecDepth 100000
mutual
def r_Growing.l0 : Nat → List (S33) → List Int → Int → Option (List Int)
 | 0, _, _, _ => none
 | k + 1, x0, x3, x4 => if x4 < (x0.length : Int) then (if 0 ≤ x4 then (if ((rT x0 x4).f0) = 1 then (if (wrap64 (x4 + 1)) < (x0.length : Int) then (if 0 ≤ (wrap64 (x4 + 1)) then (r_Growing.j1 k x0 x3 x4 (((rT x0 (wrap64 (x4 + 1))).f0) == 1)) else (none)) else (r_Growing.j1 k x0 x3 x4 false)) else (r_Growing.j1 k x0 x3 x4 true)) else (none)) else (some x3)
def r_Growing.j1 : Nat → List (S33) → List Int → Int → Bool → Option (List Int)
 | 0, _, _, _, _ => none
 | k + 1, x0, x3, x4, x35 => if x35 = true then (r_Growing.l0 k x0 x3 (wrap64 (x4 + 1))) else (r_Growing.l1 k x0 x3 x4 false false 0)
def r_Growing.l1 : Nat → List (S33) → List Int → Int → Bool → Bool → Int → Option (List Int)
 | 0, _, _, _, _, _, _ => none
 | k + 1, x0, x3, x4, x5, x6, x7 => if x7 < (x0.length : Int) then (if 0 ≤ x7 then ((r_solid.f ((rT x0 x7).f0) ((rT x0 x7).f1) ((rT x0 x7).f2) ((rT x0 x7).f3) ((rT x0 x7).f4) ((rT x0 x7).f5) ((rT x0 x7).f6)).bind fun t201 => (if t201 = true then (if x5 = true then (if x6 = true then (r_Growing.l1 k x0 x3 x4 true true (wrap64 (x7 + 1))) else (r_Growing.l1 k x0 x3 x4 true (decide (x7 > x4)) (wrap64 (x7 + 1)))) else (if x6 = true then (r_Growing.l1 k x0 x3 x4 (decide (x7 < x4)) true (wrap64 (x7 + 1))) else (r_Growing.l1 k x0 x3 x4 (decide (x7 < x4)) (decide (x7 > x4)) (wrap64 (x7 + 1))))) else (r_Growing.l1 k x0 x3 x4 x5 x6 (wrap64 (x7 + 1))))) else (none)) else (if x5 = true then (if x6 = true then (if x3.length < 17592186044416 then (r_Growing.l0 k x0 (x3 ++ [x4]) (wrap64 (x4 + 1))) else (none)) else (r_Growing.l0 k x0 x3 (wrap64 (x4 + 1)))) else (r_Growing.l0 k x0 x3 (wrap64 (x4 + 1))))
end
def r_Growing.f (k : Nat) (l0 : List (S33)) : Option (List Int) := r_Growing.l0 k l0 ([] : List Int) 0
theorem r_Growing.calls (k : Nat) (A0 : Option Addr) (c0 : Nat) (l0 : List (S33)) (r : List Int) (w : World) (hr0 : Kd.C k33 w A0 l0.length l0) (hc0 : l0.length ≤ c0) (h : r_Growing.f k l0 = some r) :
  Calls Try.prog 12 #[.slice A0 l0.length c0] w fun e w' => ∃ v0_ : Value, e = .returned (v0_) ∧ Kd.R (Kd.int .i64) 3 w' w.heap.size (fun _ => True) v0_ r ∧ Below w.heap.size w w' := by
 have hu33 := Try.underlying33
 have HR0 := o_ hr0
 have HC0 := o_ hc0
 clear hr0 hc0
 have HB := o_ (Below.refl w.heap.size w)
 have H : (r_Growing.l0 k l0 ([] : List Int) 0) = some r := h
 clear h
 have H' := o_ H
 clear H
 go_enter Try.func12, Try.ntmps12
 go_wp2
 go_loopg [3, 4] k (fun kq v3 v4 w' => ∃ (x3_1 : List Int) (x4_1 : Int), v4 = .int .i64 x4_1 ∧ As (r_Growing.l0 kq l0 x3_1 x4_1 = some r) ∧ As (kq ≤ k) ∧ As (Kd.R (Kd.int .i64) 3 w' w.heap.size (fun _ => True) v3 x3_1) ∧ As (Below w.heap.size w w'))
 case atStart => exact ⟨(([] : List Int)), (0), (by first | rfl | simp [*]), H', ⟨Nat.le_refl _⟩, ⟨by first | exact Kd.R_nil _ _ _ _ _ | exact Kd.N_nil _ _ _ _ _ | exact Kd.V_nil _ _ _ _ _ | exact Kd.Q_nil _ _ _ _ _ | exact Kd.S_nil _ _ _ _ _⟩, ⟨bl HB⟩⟩
 case round =>
  clear H'
  obtain ⟨x3_1, x4_1, rfl, HA, HK1, HO_3, HB⟩ := hrel
  cases gk with
  | zero => exact absurd HA.out (by simp [r_Growing.l0])
  | succ k1 =>
   have H := HA.out
   clear HA
   simp only [r_Growing.l0] at H
   by_cases c2 : x4_1 < (l0.length : Int)
   rotate_left
   ·rw [if_neg c2] at H
    have c2b0 := decide_eq_false c2
    clear c2
    obtain rfl := Option.some.inj H
    go_wp2
    go_ret
    exact ⟨_, by first | rfl | (simp [*] <;> rfl), Ru HO_3, bl HB⟩
   rw [if_pos c2] at H
   have c2b0 := decide_eq_true c2
   clear c2
   have HC3 := o_ H
   clear H
   go_upto_region 5 with (fail)
   go_cut [35] (fun v35 wc => ∃ (kq : Nat) (x35_2 : Bool), v35 = .bool x35_2 ∧ As (r_Growing.j1 kq l0 x3_1 x4_1 x35_2 = some r) ∧ As (kq ≤ k1) ∧ As (Kd.R (Kd.int .i64) 3 wc w.heap.size (fun _ => True) u3 x3_1) ∧ As (Below w.heap.size w wc))
   case first =>
    have H := HC3.out
    clear HC3
    by_cases c4 : 0 ≤ x4_1
    rotate_left
    ·rw [if_neg c4] at H
     exact absurd H (by simp)
    rw [if_pos c4] at H
    have c4b0 := decide_eq_true c4
    clear c4
    (first | rw [c4b0] | (simp only [i64_w, i32_w]; rw [c4b0]) | skip)
    by_cases c5 : ((rT l0 x4_1).f0) = 1
    rotate_left
    ·rw [if_neg c5] at H
     have c5b0 : (((rT l0 x4_1).f0) == 1) = false := beq_eq_false_iff_ne.mpr c5
     have c5b1 : (((rT l0 x4_1).f0) != 1) = true := bne_iff_ne.mpr c5
     have H' := o_ H
     clear H
     have p198 : 0 ≤ (x4_1 : Int) := oa
     have q198 : x4_1 < (l0.length : Int) := oa
     obtain ⟨ad198, A198_6, c198_6, e198, hx198_0, hx198_1, hx198_2, hx198_3, hx198_4, hx198_5, hx198_6, hl198_6, hi198_6⟩ := aT HR0.out x4_1 p198 q198
     cases e198
     obtain ⟨hx198_0, hx198_1, hx198_2, hx198_3, hx198_4, hx198_5, hx198_6⟩ := ct7 HB hx198_0 hx198_1 hx198_2 hx198_3 hx198_4 hx198_5 hx198_6
     have HR198_6 := o_ hi198_6
     have HC198_6 := o_ hl198_6
     clear hi198_6 hl198_6
     replace p198 := eq_true p198
     replace q198 := eq_true q198
     go_wp2
     go_meet
     case rel => exact ⟨_, (true), (by first | rfl | simp [*]), H', ⟨by have := HK1.out; first | omega | exact Nat.le_refl _⟩, ⟨Ru HO_3⟩, ⟨bl HB⟩⟩
    rw [if_pos c5] at H
    have c5b0 : (((rT l0 x4_1).f0) == 1) = true := beq_iff_eq.mpr c5
    have c5b1 : (((rT l0 x4_1).f0) != 1) = false := bne_eq_false_iff_eq.mpr c5
    clear c5
    by_cases c6 : (wrap64 (x4_1 + 1)) < (l0.length : Int)
    rotate_left
    ·rw [if_neg c6] at H
     have c6b0 := decide_eq_false c6
     clear c6
     have H' := o_ H
     clear H
     have p198 : 0 ≤ (x4_1 : Int) := oa
     have q198 : x4_1 < (l0.length : Int) := oa
     obtain ⟨ad198, A198_6, c198_6, e198, hx198_0, hx198_1, hx198_2, hx198_3, hx198_4, hx198_5, hx198_6, hl198_6, hi198_6⟩ := aT HR0.out x4_1 p198 q198
     cases e198
     obtain ⟨hx198_0, hx198_1, hx198_2, hx198_3, hx198_4, hx198_5, hx198_6⟩ := ct7 HB hx198_0 hx198_1 hx198_2 hx198_3 hx198_4 hx198_5 hx198_6
     have HR198_6 := o_ hi198_6
     have HC198_6 := o_ hl198_6
     clear hi198_6 hl198_6
     replace p198 := eq_true p198
     replace q198 := eq_true q198
     go_wp2
     go_meet
     case rel => exact ⟨_, (false), (by first | rfl | simp [*]), H', ⟨by have := HK1.out; first | omega | exact Nat.le_refl _⟩, ⟨Ru HO_3⟩, ⟨bl HB⟩⟩
    rw [if_pos c6] at H
    have c6b0 := decide_eq_true c6
    clear c6
    obtain ⟨ji7, hji7⟩ : ∃ j_ : Int, (wrap64 (x4_1 + 1)) = j_ := ⟨_, rfl⟩
    replace H : (if 0 ≤ (ji7) then (r_Growing.j1 k1 l0 x3_1 x4_1 (((rT l0 (ji7)).f0) == 1)) else (none)) = some r := by first | (rw [hji7] at H; exact H) | (simp only [hji7] at H ⊢; exact H)
    (try rw [hji7] at c6b0)
    have hji7w : (IntKind.i64.wrap (x4_1 + 1)) = ji7 := (i64_w _).trans hji7
    by_cases c8 : 0 ≤ (ji7)
    rotate_left
    ·rw [if_neg c8] at H
     exact absurd H (by simp)
    rw [if_pos c8] at H
    have c8b0 := decide_eq_true c8
    clear c8
    have H' := o_ H
    clear H
    have p198 : 0 ≤ (x4_1 : Int) := oa
    have q198 : x4_1 < (l0.length : Int) := oa
    obtain ⟨ad198, A198_6, c198_6, e198, hx198_0, hx198_1, hx198_2, hx198_3, hx198_4, hx198_5, hx198_6, hl198_6, hi198_6⟩ := aT HR0.out x4_1 p198 q198
    cases e198
    obtain ⟨hx198_0, hx198_1, hx198_2, hx198_3, hx198_4, hx198_5, hx198_6⟩ := ct7 HB hx198_0 hx198_1 hx198_2 hx198_3 hx198_4 hx198_5 hx198_6
    have HR198_6 := o_ hi198_6
    have HC198_6 := o_ hl198_6
    clear hi198_6 hl198_6
    replace p198 := eq_true p198
    replace q198 := eq_true q198
    have p199 : 0 ≤ ((ji7) : Int) := oa
    have q199 : (ji7) < (l0.length : Int) := oa
    obtain ⟨ad199, A199_6, c199_6, e199, hx199_0, hx199_1, hx199_2, hx199_3, hx199_4, hx199_5, hx199_6, hl199_6, hi199_6⟩ := aT HR0.out (ji7) p199 q199
    obtain rfl : ad198 = ad199 := (by injection e199)
    obtain ⟨hx199_0, hx199_1, hx199_2, hx199_3, hx199_4, hx199_5, hx199_6⟩ := ct7 HB hx199_0 hx199_1 hx199_2 hx199_3 hx199_4 hx199_5 hx199_6
    have HR199_6 := o_ hi199_6
    have HC199_6 := o_ hl199_6
    clear hi199_6 hl199_6
    replace p199 := eq_true p199
    replace q199 := eq_true q199
    go_wp2
    go_meet
    case rel => exact ⟨_, ((((rT l0 (ji7)).f0) == 1)), (by first | rfl | (simp; done) | (simp only [← hji7] <;> (first | rfl | simp)) | (simp [*]; done)), H', ⟨by have := HK1.out; first | omega | exact Nat.le_refl _⟩, ⟨Ru HO_3⟩, ⟨bl HB⟩⟩
   case rest =>
    clear HC3
    try clear q1
    try clear hx1
    try clear hx198_0
    try clear hx198_1
    try clear hx198_2
    try clear hx198_3
    try clear hx198_4
    try clear hx198_5
    try clear hx198_6
    try clear hx199_0
    try clear hx199_1
    try clear hx199_2
    try clear hx199_3
    try clear hx199_4
    try clear hx199_5
    try clear hx199_6
    try clear q198
    try clear q199
    obtain ⟨kq, x35_2, rfl, HA, HJ2, HO_3, HB⟩ := hcut
    cases kq with
    | zero => exact absurd HA.out (by simp [r_Growing.j1])
    | succ kj2 =>
     have H := HA.out
     clear HA
     simp only [r_Growing.j1] at H
     by_cases c9 : x35_2 = true
     ·subst c9
      have H1 : (r_Growing.l0 kj2 l0 x3_1 (wrap64 (x4_1 + 1))) = some r := by rw [if_pos rfl] at H; exact H
      clear H
      have H := H1
      clear H1
      have H' := o_ H
      clear H
      go_wp2
      go_roundg kj2
      case measure => have := HK1.out; have := HJ2.out; omega
      case rel => exact ⟨(x3_1), (wrap64 (x4_1 + 1)), (by first | rfl | simp [*]), H', ⟨by have := HK1.out; have := HJ2.out; omega⟩, ⟨Ru HO_3⟩, ⟨bl HB⟩⟩
     replace c9 := Bool.eq_false_iff.mpr c9
     subst c9
     have H1 : (r_Growing.l1 kj2 l0 x3_1 x4_1 false false 0) = some r := by rw [if_neg (show ¬ (false = true) by decide)] at H; exact H
     clear H
     have H := H1
     clear H1
     have H' := o_ H
     clear H
     go_wp2
     go_loopg [5, 6, 7] kj2 (fun kq v5 v6 v7 w' => ∃ (x5_3 : Bool) (x6_3 : Bool) (x7_3 : Int), v5 = .bool x5_3 ∧ v6 = .bool x6_3 ∧ v7 = .int .i64 x7_3 ∧ As (r_Growing.l1 kq l0 x3_1 x4_1 x5_3 x6_3 x7_3 = some r) ∧ As (kq ≤ kj2) ∧ As (Kd.R (Kd.int .i64) 3 w' w.heap.size (fun _ => True) u3 x3_1) ∧ As (Below w.heap.size w w'))
     case atStart => exact ⟨(false), (false), (0), (by first | rfl | simp [*]), (by first | rfl | simp [*]), (by first | rfl | simp [*]), H', ⟨Nat.le_refl _⟩, ⟨Ru HO_3⟩, ⟨bl HB⟩⟩
     case round =>
      clear H'
      try clear q1
      try clear hx1
      try clear hx198_0
      try clear hx198_1
      try clear hx198_2
      try clear hx198_3
      try clear hx198_4
      try clear hx198_5
      try clear hx198_6
      try clear hx199_0
      try clear hx199_1
      try clear hx199_2
      try clear hx199_3
      try clear hx199_4
      try clear hx199_5
      try clear hx199_6
      try clear q1
      try clear q198
      try clear q199
      obtain ⟨x5_3, x6_3, x7_3, rfl, rfl, rfl, HA, HK3, HO_3, HB⟩ := hrel
      cases gk with
      | zero => exact absurd HA.out (by simp [r_Growing.l1])
      | succ k3 =>
       have H := HA.out
       clear HA
       simp only [r_Growing.l1] at H
       by_cases c10 : x7_3 < (l0.length : Int)
       rotate_left
       ·rw [if_neg c10] at H
        have c10b0 := decide_eq_false c10
        clear c10
        by_cases c22 : x5_3 = true
        rotate_left
        ·replace c22 := Bool.eq_false_iff.mpr c22
         subst c22
         have H1 : (r_Growing.l0 k3 l0 x3_1 (wrap64 (x4_1 + 1))) = some r := by rw [if_neg (show ¬ (false = true) by decide)] at H; exact H
         clear H
         have H := H1
         clear H1
         have H' := o_ H
         clear H
         go_wp2
         go_roundg k3
         case measure => have := HK1.out; have := HJ2.out; have := HK3.out; omega
         case rel => exact ⟨(x3_1), (wrap64 (x4_1 + 1)), (by first | rfl | simp [*]), H', ⟨by have := HK1.out; have := HJ2.out; have := HK3.out; omega⟩, ⟨Ru HO_3⟩, ⟨bl HB⟩⟩
        subst c22
        have H1 : (if x6_3 = true then (if x3_1.length < 17592186044416 then (r_Growing.l0 k3 l0 (x3_1 ++ [x4_1]) (wrap64 (x4_1 + 1))) else (none)) else (r_Growing.l0 k3 l0 x3_1 (wrap64 (x4_1 + 1)))) = some r := by rw [if_pos rfl] at H; exact H
        clear H
        have H := H1
        clear H1
        by_cases c23 : x6_3 = true
        rotate_left
        ·replace c23 := Bool.eq_false_iff.mpr c23
         subst c23
         have H1 : (r_Growing.l0 k3 l0 x3_1 (wrap64 (x4_1 + 1))) = some r := by rw [if_neg (show ¬ (false = true) by decide)] at H; exact H
         clear H
         have H := H1
         clear H1
         have H' := o_ H
         clear H
         go_wp2
         go_roundg k3
         case measure => have := HK1.out; have := HJ2.out; have := HK3.out; omega
         case rel => exact ⟨(x3_1), (wrap64 (x4_1 + 1)), (by first | rfl | simp [*]), H', ⟨by have := HK1.out; have := HJ2.out; have := HK3.out; omega⟩, ⟨Ru HO_3⟩, ⟨bl HB⟩⟩
        subst c23
        have H1 : (if x3_1.length < 17592186044416 then (r_Growing.l0 k3 l0 (x3_1 ++ [x4_1]) (wrap64 (x4_1 + 1))) else (none)) = some r := by rw [if_pos rfl] at H; exact H
        clear H
        have H := H1
        clear H1
        by_cases c24 : x3_1.length < 17592186044416
        rotate_left
        ·rw [if_neg c24] at H
         exact absurd H (by simp)
        rw [if_pos c24] at H
        have LMc24 := o_ c24
        clear c24
        obtain ⟨y202, hy202⟩ : ∃ y_ : List Int, y_ = (x3_1 ++ [x4_1]) := ⟨_, rfl⟩
        replace H : (r_Growing.l0 k3 l0 y202 (wrap64 (x4_1 + 1))) = some r := by first | (rw [hy202]; with_reducible exact H) | (have H2_ := (Option.bind_some _ _).symm.trans H; rw [hy202]; with_reducible exact H2_) | (have H2_ := (Option.bind_some _ _).symm.trans H; with_reducible exact H2_) | with_reducible exact H | (rw [hy202]; exact H) | exact H
        have Ny202 := o_ hy202
        clear hy202
        have H' := o_ H
        clear H
        go_wp2_with (first | ((with_reducible refine gate_builtin (b := .append) (xs := #[.tmp 63, .tmp 65]) rfl ?_); (try (refine gate_guard (by rfl) ?_; dsimp only)); at_builtin; refine Kd.R_append (Kd.int .i64) (w0 := w) w.heap.size rfl (.tmp 63) (.tmp 65) 22 3 (.int .i64 0) 8 rfl Try.underlying22 info3 rfl (by decide) (by omega) u3 x3_1 x4_1 [.int .i64 x4_1] (fun _ => True) (fun _ => False) rfl rfl ?aP (fun _ hk => hk.elim) ?aF ?aO ?aB ?aS ?aL ?_; (case aP => exact rfl); (case aB => exact (bl HB)); (case aF => exact (fun _ _ => trivial)); (case aO => exact (Ru HO_3)); (case aS => exact (below_size (bl HB))); (case aL => have := LMc24.out; omega); intro v203 w25 ho hb hg hat; rw [← Ny202.out] at ho; have n0_ := o_ (hb); have n1_ := o_ (ho); clear HB; clear HO_3; have HB := n0_; have HO204 := n1_; clear n0_ n1_; clear ho hb hg hat))
        go_roundg k3
        case measure => have := HK1.out; have := HJ2.out; have := HK3.out; omega
        case rel => exact ⟨(y202), (wrap64 (x4_1 + 1)), (by first | rfl | simp [*]), H', ⟨by have := HK1.out; have := HJ2.out; have := HK3.out; omega⟩, ⟨Ru HO204⟩, ⟨bl HB⟩⟩
       rw [if_pos c10] at H
       have c10b0 := decide_eq_true c10
       clear c10
       by_cases c11 : 0 ≤ x7_3
       rotate_left
       ·rw [if_neg c11] at H
        exact absurd H (by simp)
       rw [if_pos c11] at H
       have c11b0 := decide_eq_true c11
       clear c11
       obtain ⟨t201, A120, H⟩ := qb H
       try dsimp only at H
       have A12 := o_ A120
       clear A120
       by_cases c13 : t201 = true
       rotate_left
       ·replace c13 := Bool.eq_false_iff.mpr c13
        subst c13
        have H1 : (r_Growing.l1 k3 l0 x3_1 x4_1 x5_3 x6_3 (wrap64 (x7_3 + 1))) = some r := by rw [if_neg (show ¬ (false = true) by decide)] at H; exact H
        clear H
        have H := H1
        clear H1
        have H' := o_ H
        clear H
        have p200 : 0 ≤ (x7_3 : Int) := oa
        have q200 : x7_3 < (l0.length : Int) := oa
        obtain ⟨ad200, A200_6, c200_6, e200, hx200_0, hx200_1, hx200_2, hx200_3, hx200_4, hx200_5, hx200_6, hl200_6, hi200_6⟩ := aT HR0.out x7_3 p200 q200
        cases e200
        obtain ⟨hx200_0, hx200_1, hx200_2, hx200_3, hx200_4, hx200_5, hx200_6⟩ := ct7 HB hx200_0 hx200_1 hx200_2 hx200_3 hx200_4 hx200_5 hx200_6
        have HR200_6 := o_ hi200_6
        have HC200_6 := o_ hl200_6
        clear hi200_6 hl200_6
        replace p200 := eq_true p200
        replace q200 := eq_true q200
        go_wp2_with (first | (go_at_call 35; (with_reducible refine (r_solid.calls ((rT l0 x7_3).f0) ((rT l0 x7_3).f1) ((rT l0 x7_3).f2) ((rT l0 x7_3).f3) ((rT l0 x7_3).f4) ((rT l0 x7_3).f5) _ _ ((rT l0 x7_3).f6) false _ ?side1 ?side2 A12.out).mono ?_); (case side1 => exact Kd.C_below HR200_6.out (bl HB)); (case side2 => exact HC200_6.out); rintro e w21 ⟨rfl, hb⟩; have n0_ := o_ (Kd.R_below (Ru HO_3) hb); have n1_ := o_ (below_step (bl HB) hb); clear HO_3; clear HB; have HO_3 := n0_; have HB := n1_; clear n0_ n1_; (try clear hb)))
        go_roundg k3
        case measure => have := HK1.out; have := HJ2.out; have := HK3.out; omega
        case rel => exact ⟨(x5_3), (x6_3), (wrap64 (x7_3 + 1)), (by first | rfl | simp [*]), (by first | rfl | simp [*]), (by first | rfl | simp [*]), H', ⟨by have := HK1.out; have := HJ2.out; have := HK3.out; omega⟩, ⟨Ru HO_3⟩, ⟨bl HB⟩⟩
       subst c13
       have H1 : (if x5_3 = true then (if x6_3 = true then (r_Growing.l1 k3 l0 x3_1 x4_1 true true (wrap64 (x7_3 + 1))) else (r_Growing.l1 k3 l0 x3_1 x4_1 true (decide (x7_3 > x4_1)) (wrap64 (x7_3 + 1)))) else (if x6_3 = true then (r_Growing.l1 k3 l0 x3_1 x4_1 (decide (x7_3 < x4_1)) true (wrap64 (x7_3 + 1))) else (r_Growing.l1 k3 l0 x3_1 x4_1 (decide (x7_3 < x4_1)) (decide (x7_3 > x4_1)) (wrap64 (x7_3 + 1))))) = some r := by rw [if_pos rfl] at H; exact H
       clear H
       have H := H1
       clear H1
       by_cases c14 : x5_3 = true
       ·subst c14
        have H1 : (if x6_3 = true then (r_Growing.l1 k3 l0 x3_1 x4_1 true true (wrap64 (x7_3 + 1))) else (r_Growing.l1 k3 l0 x3_1 x4_1 true (decide (x7_3 > x4_1)) (wrap64 (x7_3 + 1)))) = some r := by rw [if_pos rfl] at H; exact H
        clear H
        have H := H1
        clear H1
        by_cases c15 : x6_3 = true
        ·subst c15
         have H1 : (r_Growing.l1 k3 l0 x3_1 x4_1 true true (wrap64 (x7_3 + 1))) = some r := by rw [if_pos rfl] at H; exact H
         clear H
         have H := H1
         clear H1
         have H' := o_ H
         clear H
         have p200 : 0 ≤ (x7_3 : Int) := oa
         have q200 : x7_3 < (l0.length : Int) := oa
         obtain ⟨ad200, A200_6, c200_6, e200, hx200_0, hx200_1, hx200_2, hx200_3, hx200_4, hx200_5, hx200_6, hl200_6, hi200_6⟩ := aT HR0.out x7_3 p200 q200
         cases e200
         obtain ⟨hx200_0, hx200_1, hx200_2, hx200_3, hx200_4, hx200_5, hx200_6⟩ := ct7 HB hx200_0 hx200_1 hx200_2 hx200_3 hx200_4 hx200_5 hx200_6
         have HR200_6 := o_ hi200_6
         have HC200_6 := o_ hl200_6
         clear hi200_6 hl200_6
         replace p200 := eq_true p200
         replace q200 := eq_true q200
         go_wp2_with (first | (go_at_call 35; (with_reducible refine (r_solid.calls ((rT l0 x7_3).f0) ((rT l0 x7_3).f1) ((rT l0 x7_3).f2) ((rT l0 x7_3).f3) ((rT l0 x7_3).f4) ((rT l0 x7_3).f5) _ _ ((rT l0 x7_3).f6) true _ ?side1 ?side2 A12.out).mono ?_); (case side1 => exact Kd.C_below HR200_6.out (bl HB)); (case side2 => exact HC200_6.out); rintro e w16 ⟨rfl, hb⟩; have n0_ := o_ (Kd.R_below (Ru HO_3) hb); have n1_ := o_ (below_step (bl HB) hb); clear HO_3; clear HB; have HO_3 := n0_; have HB := n1_; clear n0_ n1_; (try clear hb)))
         go_roundg k3
         case measure => have := HK1.out; have := HJ2.out; have := HK3.out; omega
         case rel => exact ⟨(true), (true), (wrap64 (x7_3 + 1)), (by first | rfl | simp [*]), (by first | rfl | simp [*]), (by first | rfl | simp [*]), H', ⟨by have := HK1.out; have := HJ2.out; have := HK3.out; omega⟩, ⟨Ru HO_3⟩, ⟨bl HB⟩⟩
        replace c15 := Bool.eq_false_iff.mpr c15
        subst c15
        have H1 : (r_Growing.l1 k3 l0 x3_1 x4_1 true (decide (x7_3 > x4_1)) (wrap64 (x7_3 + 1))) = some r := by rw [if_neg (show ¬ (false = true) by decide)] at H; exact H
        clear H
        have H := H1
        clear H1
        have H' := o_ H
        clear H
        have p200 : 0 ≤ (x7_3 : Int) := oa
        have q200 : x7_3 < (l0.length : Int) := oa
        obtain ⟨ad200, A200_6, c200_6, e200, hx200_0, hx200_1, hx200_2, hx200_3, hx200_4, hx200_5, hx200_6, hl200_6, hi200_6⟩ := aT HR0.out x7_3 p200 q200
        cases e200
        obtain ⟨hx200_0, hx200_1, hx200_2, hx200_3, hx200_4, hx200_5, hx200_6⟩ := ct7 HB hx200_0 hx200_1 hx200_2 hx200_3 hx200_4 hx200_5 hx200_6
        have HR200_6 := o_ hi200_6
        have HC200_6 := o_ hl200_6
        clear hi200_6 hl200_6
        replace p200 := eq_true p200
        replace q200 := eq_true q200
        go_wp2_with (first | (go_at_call 35; (with_reducible refine (r_solid.calls ((rT l0 x7_3).f0) ((rT l0 x7_3).f1) ((rT l0 x7_3).f2) ((rT l0 x7_3).f3) ((rT l0 x7_3).f4) ((rT l0 x7_3).f5) _ _ ((rT l0 x7_3).f6) true _ ?side1 ?side2 A12.out).mono ?_); (case side1 => exact Kd.C_below HR200_6.out (bl HB)); (case side2 => exact HC200_6.out); rintro e w17 ⟨rfl, hb⟩; have n0_ := o_ (Kd.R_below (Ru HO_3) hb); have n1_ := o_ (below_step (bl HB) hb); clear HO_3; clear HB; have HO_3 := n0_; have HB := n1_; clear n0_ n1_; (try clear hb)))
        go_roundg k3
        case measure => have := HK1.out; have := HJ2.out; have := HK3.out; omega
        case rel => exact ⟨(true), (decide (x7_3 > x4_1)), (wrap64 (x7_3 + 1)), (by first | rfl | simp [*]), (by first | rfl | simp [*]), (by first | rfl | simp [*]), H', ⟨by have := HK1.out; have := HJ2.out; have := HK3.out; omega⟩, ⟨Ru HO_3⟩, ⟨bl HB⟩⟩
       replace c14 := Bool.eq_false_iff.mpr c14
       subst c14
       have H1 : (if x6_3 = true then (r_Growing.l1 k3 l0 x3_1 x4_1 (decide (x7_3 < x4_1)) true (wrap64 (x7_3 + 1))) else (r_Growing.l1 k3 l0 x3_1 x4_1 (decide (x7_3 < x4_1)) (decide (x7_3 > x4_1)) (wrap64 (x7_3 + 1)))) = some r := by rw [if_neg (show ¬ (false = true) by decide)] at H; exact H
       clear H
       have H := H1
       clear H1
       by_cases c18 : x6_3 = true
       ·subst c18
        have H1 : (r_Growing.l1 k3 l0 x3_1 x4_1 (decide (x7_3 < x4_1)) true (wrap64 (x7_3 + 1))) = some r := by rw [if_pos rfl] at H; exact H
        clear H
        have H := H1
        clear H1
        have H' := o_ H
        clear H
        have p200 : 0 ≤ (x7_3 : Int) := oa
        have q200 : x7_3 < (l0.length : Int) := oa
        obtain ⟨ad200, A200_6, c200_6, e200, hx200_0, hx200_1, hx200_2, hx200_3, hx200_4, hx200_5, hx200_6, hl200_6, hi200_6⟩ := aT HR0.out x7_3 p200 q200
        cases e200
        obtain ⟨hx200_0, hx200_1, hx200_2, hx200_3, hx200_4, hx200_5, hx200_6⟩ := ct7 HB hx200_0 hx200_1 hx200_2 hx200_3 hx200_4 hx200_5 hx200_6
        have HR200_6 := o_ hi200_6
        have HC200_6 := o_ hl200_6
        clear hi200_6 hl200_6
        replace p200 := eq_true p200
        replace q200 := eq_true q200
        go_wp2_with (first | (go_at_call 35; (with_reducible refine (r_solid.calls ((rT l0 x7_3).f0) ((rT l0 x7_3).f1) ((rT l0 x7_3).f2) ((rT l0 x7_3).f3) ((rT l0 x7_3).f4) ((rT l0 x7_3).f5) _ _ ((rT l0 x7_3).f6) true _ ?side1 ?side2 A12.out).mono ?_); (case side1 => exact Kd.C_below HR200_6.out (bl HB)); (case side2 => exact HC200_6.out); rintro e w19 ⟨rfl, hb⟩; have n0_ := o_ (Kd.R_below (Ru HO_3) hb); have n1_ := o_ (below_step (bl HB) hb); clear HO_3; clear HB; have HO_3 := n0_; have HB := n1_; clear n0_ n1_; (try clear hb)))
        go_roundg k3
        case measure => have := HK1.out; have := HJ2.out; have := HK3.out; omega
        case rel => exact ⟨(decide (x7_3 < x4_1)), (true), (wrap64 (x7_3 + 1)), (by first | rfl | simp [*]), (by first | rfl | simp [*]), (by first | rfl | simp [*]), H', ⟨by have := HK1.out; have := HJ2.out; have := HK3.out; omega⟩, ⟨Ru HO_3⟩, ⟨bl HB⟩⟩
       replace c18 := Bool.eq_false_iff.mpr c18
       subst c18
       have H1 : (r_Growing.l1 k3 l0 x3_1 x4_1 (decide (x7_3 < x4_1)) (decide (x7_3 > x4_1)) (wrap64 (x7_3 + 1))) = some r := by rw [if_neg (show ¬ (false = true) by decide)] at H; exact H
       clear H
       have H := H1
       clear H1
       have H' := o_ H
       clear H
       have p200 : 0 ≤ (x7_3 : Int) := oa
       have q200 : x7_3 < (l0.length : Int) := oa
       obtain ⟨ad200, A200_6, c200_6, e200, hx200_0, hx200_1, hx200_2, hx200_3, hx200_4, hx200_5, hx200_6, hl200_6, hi200_6⟩ := aT HR0.out x7_3 p200 q200
       cases e200
       obtain ⟨hx200_0, hx200_1, hx200_2, hx200_3, hx200_4, hx200_5, hx200_6⟩ := ct7 HB hx200_0 hx200_1 hx200_2 hx200_3 hx200_4 hx200_5 hx200_6
       have HR200_6 := o_ hi200_6
       have HC200_6 := o_ hl200_6
       clear hi200_6 hl200_6
       replace p200 := eq_true p200
       replace q200 := eq_true q200
       go_wp2_with (first | (go_at_call 35; (with_reducible refine (r_solid.calls ((rT l0 x7_3).f0) ((rT l0 x7_3).f1) ((rT l0 x7_3).f2) ((rT l0 x7_3).f3) ((rT l0 x7_3).f4) ((rT l0 x7_3).f5) _ _ ((rT l0 x7_3).f6) true _ ?side1 ?side2 A12.out).mono ?_); (case side1 => exact Kd.C_below HR200_6.out (bl HB)); (case side2 => exact HC200_6.out); rintro e w20 ⟨rfl, hb⟩; have n0_ := o_ (Kd.R_below (Ru HO_3) hb); have n1_ := o_ (below_step (bl HB) hb); clear HO_3; clear HB; have HO_3 := n0_; have HB := n1_; clear n0_ n1_; (try clear hb)))
       go_roundg k3
       case measure => have := HK1.out; have := HJ2.out; have := HK3.out; omega
       case rel => exact ⟨(decide (x7_3 < x4_1)), (decide (x7_3 > x4_1)), (wrap64 (x7_3 + 1)), (by first | rfl | simp [*]), (by first | rfl | simp [*]), (by first | rfl | simp [*]), H', ⟨by have := HK1.out; have := HJ2.out; have := HK3.out; omega⟩, ⟨Ru HO_3⟩, ⟨bl HB⟩⟩
end Go.Proofs.Yteadghhmoggjnaa.Q
end
end
