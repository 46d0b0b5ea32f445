import Derived.KernelRfl
import Derived.Test.YteadghhmoggjnaaFR10
import Derived.Test.YteadghhmoggjnaaFR5
import Derived.Test.YteadghhmoggjnaaFR16
import Derived.Test.YteadghhmoggjnaaFR14
import Derived.Test.YteadghhmoggjnaaFR11
set_option linter.unusedVariables false
set_option linter.unusedSimpArgs false
section
section
namespace Go.Proofs.Yteadghhmoggjnaa.Q
open Go.RowKit Go.Proofs.YteadghhmoggjnaaW.PrintWords Go.Proofs.YteadghhmoggjnaaW.PrintLast Go.Proofs.YteadghhmoggjnaaW.PrintMore
attribute [local go_sem] max2_int max_two
set_option maxHeartbeats 8000000
set_option maxRecDepth 100000
mutual
def r_Growing.l0 : Nat → List (S33) → List Int → Int → Option (List Int)
 | 0, _, _, _ => none
 | k + 1, x0, x3, x4 => if x4 < (x0.length : Int) then (if 0 ≤ x4 then (if ((rd_T33 x0 x4).f0) = 1 then (if (wrap64 (x4 + 1)) < (x0.length : Int) then (if 0 ≤ (wrap64 (x4 + 1)) then (r_Growing.j1 k x0 x3 x4 (((rd_T33 x0 (wrap64 (x4 + 1))).f0) == 1)) else (none)) else (r_Growing.j1 k x0 x3 x4 false)) else (r_Growing.j1 k x0 x3 x4 true)) else (none)) else (some x3)
def r_Growing.j1 : Nat → List (S33) → List Int → Int → Bool → Option (List Int)
 | 0, _, _, _, _ => none
 | k + 1, x0, x3, x4, x35 => if x35 = true then (r_Growing.l0 k x0 x3 (wrap64 (x4 + 1))) else (r_Growing.l1 k x0 x3 x4 false false 0)
def r_Growing.l1 : Nat → List (S33) → List Int → Int → Bool → Bool → Int → Option (List Int)
 | 0, _, _, _, _, _, _ => none
 | k + 1, x0, x3, x4, x5, x6, x7 => if x7 < (x0.length : Int) then (if 0 ≤ x7 then ((r_solid.f ((rd_T33 x0 x7).f0) ((rd_T33 x0 x7).f1) ((rd_T33 x0 x7).f2) ((rd_T33 x0 x7).f3) ((rd_T33 x0 x7).f4) ((rd_T33 x0 x7).f5) ((rd_T33 x0 x7).f6)).bind fun t201 => (if t201 = true then (if x5 = true then (if x6 = true then (r_Growing.l1 k x0 x3 x4 true true (wrap64 (x7 + 1))) else (r_Growing.l1 k x0 x3 x4 true (decide (x7 > x4)) (wrap64 (x7 + 1)))) else (if x6 = true then (r_Growing.l1 k x0 x3 x4 (decide (x7 < x4)) true (wrap64 (x7 + 1))) else (r_Growing.l1 k x0 x3 x4 (decide (x7 < x4)) (decide (x7 > x4)) (wrap64 (x7 + 1))))) else (r_Growing.l1 k x0 x3 x4 x5 x6 (wrap64 (x7 + 1))))) else (none)) else (if x5 = true then (if x6 = true then (if x3.length < 17592186044416 then (r_Growing.l0 k x0 (x3 ++ [x4]) (wrap64 (x4 + 1))) else (none)) else (r_Growing.l0 k x0 x3 (wrap64 (x4 + 1)))) else (r_Growing.l0 k x0 x3 (wrap64 (x4 + 1))))
end
def r_Growing.f (k : Nat) (l0 : List (S33)) : Option (List Int) := r_Growing.l0 k l0 ([] : List Int) 0
theorem r_Growing.calls (k : Nat) (A0 : Option Addr) (c0 : Nat) (l0 : List (S33)) (r : List Int) (w : World) (hr0 : Kd.C k33 w A0 l0.length l0) (hc0 : l0.length ≤ c0) (h : r_Growing.f k l0 = some r) :
  Calls Try.prog 12 #[.slice A0 l0.length c0] w fun e w' => ∃ v0_ : Value, e = .returned (v0_) ∧ Kd.R (Kd.int .i64) 3 w' w.heap.size (fun _ => True) v0_ r ∧ Below w.heap.size w w' := by
 have hu33 := Try.underlying33
 have HR0 := As.mk hr0
 have HC0 := As.mk hc0
 clear hr0 hc0
 have HB := As.mk (Below.refl w.heap.size w)
 have H : (r_Growing.l0 k l0 ([] : List Int) 0) = some r := h
 clear h
 have H' := As.mk H
 clear H
 go_enter Try.func12, Try.ntmps12
 go_wp2
 go_loopg [3, 4] k (fun kq v3 v4 w' => ∃ (x3_1 : List Int) (x4_1 : Int), v4 = .int .i64 x4_1 ∧ As (r_Growing.l0 kq l0 x3_1 x4_1 = some r) ∧ As (kq ≤ k) ∧ As (Kd.R (Kd.int .i64) 3 w' w.heap.size (fun _ => True) v3 x3_1) ∧ As (Below w.heap.size w w'))
 case atStart => exact ⟨(([] : List Int)), (0), (by first | rfl | simp [*]), H', ⟨Nat.le_refl _⟩, ⟨by first | exact Kd.R_nil _ _ _ _ _ | exact Kd.N_nil _ _ _ _ _ | exact Kd.V_nil _ _ _ _ _ | exact Kd.Q_nil _ _ _ _ _ | exact Kd.S_nil _ _ _ _ _⟩, ⟨bl HB.out⟩⟩
 case round =>
  clear H'
  obtain ⟨x3_1, x4_1, rfl, HA, HK1, HO_3, HB⟩ := hrel
  cases gk with
  | zero => exact absurd HA.out (by simp [r_Growing.l0])
  | succ k1 =>
   have H := HA.out
   clear HA
   simp only [r_Growing.l0] at H
   by_cases c2 : x4_1 < (l0.length : Int)
   rotate_left
   ·rw [if_neg c2] at H
    have c2b0 := decide_eq_false c2
    clear c2
    obtain rfl := Option.some.inj H
    go_wp2
    go_ret
    exact ⟨_, by first | rfl | (simp [*] <;> rfl), Ru HO_3.out, bl HB.out⟩
   rw [if_pos c2] at H
   have c2b0 := decide_eq_true c2
   clear c2
   have HC3 := As.mk H
   clear H
   go_upto_region 5 with (fail)
   go_cut [35] (fun v35 wc => ∃ (kq : Nat) (x35_2 : Bool), v35 = .bool x35_2 ∧ As (r_Growing.j1 kq l0 x3_1 x4_1 x35_2 = some r) ∧ As (kq ≤ k1) ∧ As (Kd.R (Kd.int .i64) 3 wc w.heap.size (fun _ => True) u3 x3_1) ∧ As (Below w.heap.size w wc))
   case first =>
    have H := HC3.out
    clear HC3
    by_cases c4 : 0 ≤ x4_1
    rotate_left
    ·rw [if_neg c4] at H
     exact absurd H (by simp)
    rw [if_pos c4] at H
    have c4b0 := decide_eq_true c4
    clear c4
    (first | rw [c4b0] | (simp only [i64_w, i32_w]; rw [c4b0]) | skip)
    by_cases c5 : ((rd_T33 l0 x4_1).f0) = 1
    rotate_left
    ·rw [if_neg c5] at H
     have c5b0 : (((rd_T33 l0 x4_1).f0) == 1) = false := beq_eq_false_iff_ne.mpr c5
     have c5b1 : (((rd_T33 l0 x4_1).f0) != 1) = true := bne_iff_ne.mpr c5
     have H' := As.mk H
     clear H
     have p198 : 0 ≤ (x4_1 : Int) := of_decide_eq_true (by with_reducible assumption)
     have q198 : x4_1 < (l0.length : Int) := of_decide_eq_true (by with_reducible assumption)
     obtain ⟨ad198, A198_6, c198_6, e198, hx198_0, hx198_1, hx198_2, hx198_3, hx198_4, hx198_5, hx198_6, hl198_6, hi198_6⟩ := at_T33 HR0.out x4_1 p198 q198
     cases e198
     replace hx198_0 := ct HB.out hx198_0
     replace hx198_1 := ct HB.out hx198_1
     replace hx198_2 := ct HB.out hx198_2
     replace hx198_3 := ct HB.out hx198_3
     replace hx198_4 := ct HB.out hx198_4
     replace hx198_5 := ct HB.out hx198_5
     replace hx198_6 := ct HB.out hx198_6
     have HR198_6 := As.mk hi198_6
     have HC198_6 := As.mk hl198_6
     clear hi198_6 hl198_6
     replace p198 := eq_true p198
     replace q198 := eq_true q198
     go_wp2
     go_meet
     case rel => exact ⟨_, (true), (by first | rfl | simp [*]), H', ⟨by have := HK1.out; first | omega | exact Nat.le_refl _⟩, ⟨Ru HO_3.out⟩, ⟨bl HB.out⟩⟩
    rw [if_pos c5] at H
    have c5b0 : (((rd_T33 l0 x4_1).f0) == 1) = true := beq_iff_eq.mpr c5
    have c5b1 : (((rd_T33 l0 x4_1).f0) != 1) = false := bne_eq_false_iff_eq.mpr c5
    clear c5
    by_cases c6 : (wrap64 (x4_1 + 1)) < (l0.length : Int)
    rotate_left
    ·rw [if_neg c6] at H
     have c6b0 := decide_eq_false c6
     clear c6
     have H' := As.mk H
     clear H
     have p198 : 0 ≤ (x4_1 : Int) := of_decide_eq_true (by with_reducible assumption)
     have q198 : x4_1 < (l0.length : Int) := of_decide_eq_true (by with_reducible assumption)
     obtain ⟨ad198, A198_6, c198_6, e198, hx198_0, hx198_1, hx198_2, hx198_3, hx198_4, hx198_5, hx198_6, hl198_6, hi198_6⟩ := at_T33 HR0.out x4_1 p198 q198
     cases e198
     replace hx198_0 := ct HB.out hx198_0
     replace hx198_1 := ct HB.out hx198_1
     replace hx198_2 := ct HB.out hx198_2
     replace hx198_3 := ct HB.out hx198_3
     replace hx198_4 := ct HB.out hx198_4
     replace hx198_5 := ct HB.out hx198_5
     replace hx198_6 := ct HB.out hx198_6
     have HR198_6 := As.mk hi198_6
     have HC198_6 := As.mk hl198_6
     clear hi198_6 hl198_6
     replace p198 := eq_true p198
     replace q198 := eq_true q198
     go_wp2
     go_meet
     case rel => exact ⟨_, (false), (by first | rfl | simp [*]), H', ⟨by have := HK1.out; first | omega | exact Nat.le_refl _⟩, ⟨Ru HO_3.out⟩, ⟨bl HB.out⟩⟩
    rw [if_pos c6] at H
    have c6b0 := decide_eq_true c6
    clear c6
    obtain ⟨ji7, hji7⟩ : ∃ j_ : Int, (wrap64 (x4_1 + 1)) = j_ := ⟨_, rfl⟩
    replace H : (if 0 ≤ (ji7) then (r_Growing.j1 k1 l0 x3_1 x4_1 (((rd_T33 l0 (ji7)).f0) == 1)) else (none)) = some r := by first | (rw [hji7] at H; exact H) | (simp only [hji7] at H ⊢; exact H)
    (try rw [hji7] at c6b0)
    have hji7w : (IntKind.i64.wrap (x4_1 + 1)) = ji7 := (i64_w _).trans hji7
    by_cases c8 : 0 ≤ (ji7)
    rotate_left
    ·rw [if_neg c8] at H
     exact absurd H (by simp)
    rw [if_pos c8] at H
    have c8b0 := decide_eq_true c8
    clear c8
    have H' := As.mk H
    clear H
    have p198 : 0 ≤ (x4_1 : Int) := of_decide_eq_true (by with_reducible assumption)
    have q198 : x4_1 < (l0.length : Int) := of_decide_eq_true (by with_reducible assumption)
    obtain ⟨ad198, A198_6, c198_6, e198, hx198_0, hx198_1, hx198_2, hx198_3, hx198_4, hx198_5, hx198_6, hl198_6, hi198_6⟩ := at_T33 HR0.out x4_1 p198 q198
    cases e198
    replace hx198_0 := ct HB.out hx198_0
    replace hx198_1 := ct HB.out hx198_1
    replace hx198_2 := ct HB.out hx198_2
    replace hx198_3 := ct HB.out hx198_3
    replace hx198_4 := ct HB.out hx198_4
    replace hx198_5 := ct HB.out hx198_5
    replace hx198_6 := ct HB.out hx198_6
    have HR198_6 := As.mk hi198_6
    have HC198_6 := As.mk hl198_6
    clear hi198_6 hl198_6
    replace p198 := eq_true p198
    replace q198 := eq_true q198
    have p199 : 0 ≤ ((ji7) : Int) := of_decide_eq_true (by with_reducible assumption)
    have q199 : (ji7) < (l0.length : Int) := of_decide_eq_true (by with_reducible assumption)
    obtain ⟨ad199, A199_6, c199_6, e199, hx199_0, hx199_1, hx199_2, hx199_3, hx199_4, hx199_5, hx199_6, hl199_6, hi199_6⟩ := at_T33 HR0.out (ji7) p199 q199
    obtain rfl : ad198 = ad199 := (by injection e199)
    replace hx199_0 := ct HB.out hx199_0
    replace hx199_1 := ct HB.out hx199_1
    replace hx199_2 := ct HB.out hx199_2
    replace hx199_3 := ct HB.out hx199_3
    replace hx199_4 := ct HB.out hx199_4
    replace hx199_5 := ct HB.out hx199_5
    replace hx199_6 := ct HB.out hx199_6
    have HR199_6 := As.mk hi199_6
    have HC199_6 := As.mk hl199_6
    clear hi199_6 hl199_6
    replace p199 := eq_true p199
    replace q199 := eq_true q199
    go_wp2
    go_meet
    case rel => exact ⟨_, ((((rd_T33 l0 (ji7)).f0) == 1)), (by first | rfl | (simp; done) | (simp only [← hji7] <;> (first | rfl | simp)) | (simp [*]; done)), H', ⟨by have := HK1.out; first | omega | exact Nat.le_refl _⟩, ⟨Ru HO_3.out⟩, ⟨bl HB.out⟩⟩
   case rest =>
    clear HC3
    try clear q1
    try clear hx1
    try clear hx198_0
    try clear hx198_1
    try clear hx198_2
    try clear hx198_3
    try clear hx198_4
    try clear hx198_5
    try clear hx198_6
    try clear hx199_0
    try clear hx199_1
    try clear hx199_2
    try clear hx199_3
    try clear hx199_4
    try clear hx199_5
    try clear hx199_6
    try clear q198
    try clear q199
    obtain ⟨kq, x35_2, rfl, HA, HJ2, HO_3, HB⟩ := hcut
    cases kq with
    | zero => exact absurd HA.out (by simp [r_Growing.j1])
    | succ kj2 =>
     have H := HA.out
     clear HA
     simp only [r_Growing.j1] at H
     by_cases c9 : x35_2 = true
     ·subst c9
      have H1 : (r_Growing.l0 kj2 l0 x3_1 (wrap64 (x4_1 + 1))) = some r := by rw [if_pos rfl] at H; exact H
      clear H
      have H := H1
      clear H1
      have H' := As.mk H
      clear H
      go_wp2
      go_roundg kj2
      case measure => have := HK1.out; have := HJ2.out; omega
      case rel => exact ⟨(x3_1), (wrap64 (x4_1 + 1)), (by first | rfl | simp [*]), H', ⟨by have := HK1.out; have := HJ2.out; omega⟩, ⟨Ru HO_3.out⟩, ⟨bl HB.out⟩⟩
     replace c9 := Bool.eq_false_iff.mpr c9
     subst c9
     have H1 : (r_Growing.l1 kj2 l0 x3_1 x4_1 false false 0) = some r := by rw [if_neg (show ¬ (false = true) by decide)] at H; exact H
     clear H
     have H := H1
     clear H1
     have H' := As.mk H
     clear H
     go_wp2
     go_loopg [5, 6, 7] kj2 (fun kq v5 v6 v7 w' => ∃ (x5_3 : Bool) (x6_3 : Bool) (x7_3 : Int), v5 = .bool x5_3 ∧ v6 = .bool x6_3 ∧ v7 = .int .i64 x7_3 ∧ As (r_Growing.l1 kq l0 x3_1 x4_1 x5_3 x6_3 x7_3 = some r) ∧ As (kq ≤ kj2) ∧ As (Kd.R (Kd.int .i64) 3 w' w.heap.size (fun _ => True) u3 x3_1) ∧ As (Below w.heap.size w w'))
     case atStart => exact ⟨(false), (false), (0), (by first | rfl | simp [*]), (by first | rfl | simp [*]), (by first | rfl | simp [*]), H', ⟨Nat.le_refl _⟩, ⟨Ru HO_3.out⟩, ⟨bl HB.out⟩⟩
     case round =>
      clear H'
      try clear q1
      try clear hx1
      try clear hx198_0
      try clear hx198_1
      try clear hx198_2
      try clear hx198_3
      try clear hx198_4
      try clear hx198_5
      try clear hx198_6
      try clear hx199_0
      try clear hx199_1
      try clear hx199_2
      try clear hx199_3
      try clear hx199_4
      try clear hx199_5
      try clear hx199_6
      try clear q1
      try clear q198
      try clear q199
      obtain ⟨x5_3, x6_3, x7_3, rfl, rfl, rfl, HA, HK3, HO_3, HB⟩ := hrel
      cases gk with
      | zero => exact absurd HA.out (by simp [r_Growing.l1])
      | succ k3 =>
       have H := HA.out
       clear HA
       simp only [r_Growing.l1] at H
       by_cases c10 : x7_3 < (l0.length : Int)
       rotate_left
       ·rw [if_neg c10] at H
        have c10b0 := decide_eq_false c10
        clear c10
        by_cases c22 : x5_3 = true
        rotate_left
        ·replace c22 := Bool.eq_false_iff.mpr c22
         subst c22
         have H1 : (r_Growing.l0 k3 l0 x3_1 (wrap64 (x4_1 + 1))) = some r := by rw [if_neg (show ¬ (false = true) by decide)] at H; exact H
         clear H
         have H := H1
         clear H1
         have H' := As.mk H
         clear H
         go_wp2
         go_roundg k3
         case measure => have := HK1.out; have := HJ2.out; have := HK3.out; omega
         case rel => exact ⟨(x3_1), (wrap64 (x4_1 + 1)), (by first | rfl | simp [*]), H', ⟨by have := HK1.out; have := HJ2.out; have := HK3.out; omega⟩, ⟨Ru HO_3.out⟩, ⟨bl HB.out⟩⟩
        subst c22
        have H1 : (if x6_3 = true then (if x3_1.length < 17592186044416 then (r_Growing.l0 k3 l0 (x3_1 ++ [x4_1]) (wrap64 (x4_1 + 1))) else (none)) else (r_Growing.l0 k3 l0 x3_1 (wrap64 (x4_1 + 1)))) = some r := by rw [if_pos rfl] at H; exact H
        clear H
        have H := H1
        clear H1
        by_cases c23 : x6_3 = true
        rotate_left
        ·replace c23 := Bool.eq_false_iff.mpr c23
         subst c23
         have H1 : (r_Growing.l0 k3 l0 x3_1 (wrap64 (x4_1 + 1))) = some r := by rw [if_neg (show ¬ (false = true) by decide)] at H; exact H
         clear H
         have H := H1
         clear H1
         have H' := As.mk H
         clear H
         go_wp2
         go_roundg k3
         case measure => have := HK1.out; have := HJ2.out; have := HK3.out; omega
         case rel => exact ⟨(x3_1), (wrap64 (x4_1 + 1)), (by first | rfl | simp [*]), H', ⟨by have := HK1.out; have := HJ2.out; have := HK3.out; omega⟩, ⟨Ru HO_3.out⟩, ⟨bl HB.out⟩⟩
        subst c23
        have H1 : (if x3_1.length < 17592186044416 then (r_Growing.l0 k3 l0 (x3_1 ++ [x4_1]) (wrap64 (x4_1 + 1))) else (none)) = some r := by rw [if_pos rfl] at H; exact H
        clear H
        have H := H1
        clear H1
        by_cases c24 : x3_1.length < 17592186044416
        rotate_left
        ·rw [if_neg c24] at H
         exact absurd H (by simp)
        rw [if_pos c24] at H
        have LMc24 := As.mk c24
        clear c24
        obtain ⟨y202, hy202⟩ : ∃ y_ : List Int, y_ = (x3_1 ++ [x4_1]) := ⟨_, rfl⟩
        replace H : (r_Growing.l0 k3 l0 y202 (wrap64 (x4_1 + 1))) = some r := by first | (rw [hy202]; with_reducible exact H) | (have H2_ := (Option.bind_some _ _).symm.trans H; rw [hy202]; with_reducible exact H2_) | (have H2_ := (Option.bind_some _ _).symm.trans H; with_reducible exact H2_) | with_reducible exact H | (rw [hy202]; exact H) | exact H
        have Ny202 := As.mk hy202
        clear hy202
        have H' := As.mk H
        clear H
        go_wp2_with (first | ((with_reducible refine gate_builtin (b := .append) (xs := #[.tmp 63, .tmp 65]) rfl ?_); (try (refine gate_guard (by rfl) ?_; dsimp only)); at_builtin; refine Kd.R_append (Kd.int .i64) (w0 := w) w.heap.size rfl (.tmp 63) (.tmp 65) 22 3 (.int .i64 0) 8 rfl Try.underlying22 info3 rfl (by decide) (by omega) u3 x3_1 x4_1 [.int .i64 x4_1] (fun _ => True) (fun _ => False) rfl rfl ?aP (fun _ hk => hk.elim) ?aF ?aO ?aB ?aS ?aL ?_; (case aP => exact rfl); (case aB => exact (bl HB.out)); (case aF => exact (fun _ _ => trivial)); (case aO => exact (Ru HO_3.out)); (case aS => exact (below_size (bl HB.out))); (case aL => have := LMc24.out; omega); intro v203 w25 ho hb hg hat; rw [← Ny202.out] at ho; have n0_ := As.mk (hb); have n1_ := As.mk (ho); clear HB; clear HO_3; have HB := n0_; have HO204 := n1_; clear n0_ n1_; clear ho hb hg hat))
        go_roundg k3
        case measure => have := HK1.out; have := HJ2.out; have := HK3.out; omega
        case rel => exact ⟨(y202), (wrap64 (x4_1 + 1)), (by first | rfl | simp [*]), H', ⟨by have := HK1.out; have := HJ2.out; have := HK3.out; omega⟩, ⟨Ru HO204.out⟩, ⟨bl HB.out⟩⟩
       rw [if_pos c10] at H
       have c10b0 := decide_eq_true c10
       clear c10
       by_cases c11 : 0 ≤ x7_3
       rotate_left
       ·rw [if_neg c11] at H
        exact absurd H (by simp)
       rw [if_pos c11] at H
       have c11b0 := decide_eq_true c11
       clear c11
       replace H := Option.bind_eq_some_iff.mp H
       obtain ⟨t201, A120, H⟩ := H
       try dsimp only at H
       have A12 := As.mk A120
       clear A120
       by_cases c13 : t201 = true
       rotate_left
       ·replace c13 := Bool.eq_false_iff.mpr c13
        subst c13
        have H1 : (r_Growing.l1 k3 l0 x3_1 x4_1 x5_3 x6_3 (wrap64 (x7_3 + 1))) = some r := by rw [if_neg (show ¬ (false = true) by decide)] at H; exact H
        clear H
        have H := H1
        clear H1
        have H' := As.mk H
        clear H
        have p200 : 0 ≤ (x7_3 : Int) := of_decide_eq_true (by with_reducible assumption)
        have q200 : x7_3 < (l0.length : Int) := of_decide_eq_true (by with_reducible assumption)
        obtain ⟨ad200, A200_6, c200_6, e200, hx200_0, hx200_1, hx200_2, hx200_3, hx200_4, hx200_5, hx200_6, hl200_6, hi200_6⟩ := at_T33 HR0.out x7_3 p200 q200
        cases e200
        replace hx200_0 := ct HB.out hx200_0
        replace hx200_1 := ct HB.out hx200_1
        replace hx200_2 := ct HB.out hx200_2
        replace hx200_3 := ct HB.out hx200_3
        replace hx200_4 := ct HB.out hx200_4
        replace hx200_5 := ct HB.out hx200_5
        replace hx200_6 := ct HB.out hx200_6
        have HR200_6 := As.mk hi200_6
        have HC200_6 := As.mk hl200_6
        clear hi200_6 hl200_6
        replace p200 := eq_true p200
        replace q200 := eq_true q200
        go_wp2_with (first | (go_at_call 35; (with_reducible refine (r_solid.calls ((rd_T33 l0 x7_3).f0) ((rd_T33 l0 x7_3).f1) ((rd_T33 l0 x7_3).f2) ((rd_T33 l0 x7_3).f3) ((rd_T33 l0 x7_3).f4) ((rd_T33 l0 x7_3).f5) _ _ ((rd_T33 l0 x7_3).f6) false _ ?side1 ?side2 A12.out).mono ?_); (case side1 => exact Kd.C_below HR200_6.out (bl HB.out)); (case side2 => exact HC200_6.out); rintro e w21 ⟨rfl, hb⟩; have n0_ := As.mk (Kd.R_below (Ru HO_3.out) hb); have n1_ := As.mk (below_step (bl HB.out) hb); clear HO_3; clear HB; have HO_3 := n0_; have HB := n1_; clear n0_ n1_; (try clear hb)))
        go_roundg k3
        case measure => have := HK1.out; have := HJ2.out; have := HK3.out; omega
        case rel => exact ⟨(x5_3), (x6_3), (wrap64 (x7_3 + 1)), (by first | rfl | simp [*]), (by first | rfl | simp [*]), (by first | rfl | simp [*]), H', ⟨by have := HK1.out; have := HJ2.out; have := HK3.out; omega⟩, ⟨Ru HO_3.out⟩, ⟨bl HB.out⟩⟩
       subst c13
       have H1 : (if x5_3 = true then (if x6_3 = true then (r_Growing.l1 k3 l0 x3_1 x4_1 true true (wrap64 (x7_3 + 1))) else (r_Growing.l1 k3 l0 x3_1 x4_1 true (decide (x7_3 > x4_1)) (wrap64 (x7_3 + 1)))) else (if x6_3 = true then (r_Growing.l1 k3 l0 x3_1 x4_1 (decide (x7_3 < x4_1)) true (wrap64 (x7_3 + 1))) else (r_Growing.l1 k3 l0 x3_1 x4_1 (decide (x7_3 < x4_1)) (decide (x7_3 > x4_1)) (wrap64 (x7_3 + 1))))) = some r := by rw [if_pos rfl] at H; exact H
       clear H
       have H := H1
       clear H1
       by_cases c14 : x5_3 = true
       ·subst c14
        have H1 : (if x6_3 = true then (r_Growing.l1 k3 l0 x3_1 x4_1 true true (wrap64 (x7_3 + 1))) else (r_Growing.l1 k3 l0 x3_1 x4_1 true (decide (x7_3 > x4_1)) (wrap64 (x7_3 + 1)))) = some r := by rw [if_pos rfl] at H; exact H
        clear H
        have H := H1
        clear H1
        by_cases c15 : x6_3 = true
        ·subst c15
         have H1 : (r_Growing.l1 k3 l0 x3_1 x4_1 true true (wrap64 (x7_3 + 1))) = some r := by rw [if_pos rfl] at H; exact H
         clear H
         have H := H1
         clear H1
         have H' := As.mk H
         clear H
         have p200 : 0 ≤ (x7_3 : Int) := of_decide_eq_true (by with_reducible assumption)
         have q200 : x7_3 < (l0.length : Int) := of_decide_eq_true (by with_reducible assumption)
         obtain ⟨ad200, A200_6, c200_6, e200, hx200_0, hx200_1, hx200_2, hx200_3, hx200_4, hx200_5, hx200_6, hl200_6, hi200_6⟩ := at_T33 HR0.out x7_3 p200 q200
         cases e200
         replace hx200_0 := ct HB.out hx200_0
         replace hx200_1 := ct HB.out hx200_1
         replace hx200_2 := ct HB.out hx200_2
         replace hx200_3 := ct HB.out hx200_3
         replace hx200_4 := ct HB.out hx200_4
         replace hx200_5 := ct HB.out hx200_5
         replace hx200_6 := ct HB.out hx200_6
         have HR200_6 := As.mk hi200_6
         have HC200_6 := As.mk hl200_6
         clear hi200_6 hl200_6
         replace p200 := eq_true p200
         replace q200 := eq_true q200
         go_wp2_with (first | (go_at_call 35; (with_reducible refine (r_solid.calls ((rd_T33 l0 x7_3).f0) ((rd_T33 l0 x7_3).f1) ((rd_T33 l0 x7_3).f2) ((rd_T33 l0 x7_3).f3) ((rd_T33 l0 x7_3).f4) ((rd_T33 l0 x7_3).f5) _ _ ((rd_T33 l0 x7_3).f6) true _ ?side1 ?side2 A12.out).mono ?_); (case side1 => exact Kd.C_below HR200_6.out (bl HB.out)); (case side2 => exact HC200_6.out); rintro e w16 ⟨rfl, hb⟩; have n0_ := As.mk (Kd.R_below (Ru HO_3.out) hb); have n1_ := As.mk (below_step (bl HB.out) hb); clear HO_3; clear HB; have HO_3 := n0_; have HB := n1_; clear n0_ n1_; (try clear hb)))
         go_roundg k3
         case measure => have := HK1.out; have := HJ2.out; have := HK3.out; omega
         case rel => exact ⟨(true), (true), (wrap64 (x7_3 + 1)), (by first | rfl | simp [*]), (by first | rfl | simp [*]), (by first | rfl | simp [*]), H', ⟨by have := HK1.out; have := HJ2.out; have := HK3.out; omega⟩, ⟨Ru HO_3.out⟩, ⟨bl HB.out⟩⟩
        replace c15 := Bool.eq_false_iff.mpr c15
        subst c15
        have H1 : (r_Growing.l1 k3 l0 x3_1 x4_1 true (decide (x7_3 > x4_1)) (wrap64 (x7_3 + 1))) = some r := by rw [if_neg (show ¬ (false = true) by decide)] at H; exact H
        clear H
        have H := H1
        clear H1
        have H' := As.mk H
        clear H
        have p200 : 0 ≤ (x7_3 : Int) := of_decide_eq_true (by with_reducible assumption)
        have q200 : x7_3 < (l0.length : Int) := of_decide_eq_true (by with_reducible assumption)
        obtain ⟨ad200, A200_6, c200_6, e200, hx200_0, hx200_1, hx200_2, hx200_3, hx200_4, hx200_5, hx200_6, hl200_6, hi200_6⟩ := at_T33 HR0.out x7_3 p200 q200
        cases e200
        replace hx200_0 := ct HB.out hx200_0
        replace hx200_1 := ct HB.out hx200_1
        replace hx200_2 := ct HB.out hx200_2
        replace hx200_3 := ct HB.out hx200_3
        replace hx200_4 := ct HB.out hx200_4
        replace hx200_5 := ct HB.out hx200_5
        replace hx200_6 := ct HB.out hx200_6
        have HR200_6 := As.mk hi200_6
        have HC200_6 := As.mk hl200_6
        clear hi200_6 hl200_6
        replace p200 := eq_true p200
        replace q200 := eq_true q200
        go_wp2_with (first | (go_at_call 35; (with_reducible refine (r_solid.calls ((rd_T33 l0 x7_3).f0) ((rd_T33 l0 x7_3).f1) ((rd_T33 l0 x7_3).f2) ((rd_T33 l0 x7_3).f3) ((rd_T33 l0 x7_3).f4) ((rd_T33 l0 x7_3).f5) _ _ ((rd_T33 l0 x7_3).f6) true _ ?side1 ?side2 A12.out).mono ?_); (case side1 => exact Kd.C_below HR200_6.out (bl HB.out)); (case side2 => exact HC200_6.out); rintro e w17 ⟨rfl, hb⟩; have n0_ := As.mk (Kd.R_below (Ru HO_3.out) hb); have n1_ := As.mk (below_step (bl HB.out) hb); clear HO_3; clear HB; have HO_3 := n0_; have HB := n1_; clear n0_ n1_; (try clear hb)))
        go_roundg k3
        case measure => have := HK1.out; have := HJ2.out; have := HK3.out; omega
        case rel => exact ⟨(true), (decide (x7_3 > x4_1)), (wrap64 (x7_3 + 1)), (by first | rfl | simp [*]), (by first | rfl | simp [*]), (by first | rfl | simp [*]), H', ⟨by have := HK1.out; have := HJ2.out; have := HK3.out; omega⟩, ⟨Ru HO_3.out⟩, ⟨bl HB.out⟩⟩
       replace c14 := Bool.eq_false_iff.mpr c14
       subst c14
       have H1 : (if x6_3 = true then (r_Growing.l1 k3 l0 x3_1 x4_1 (decide (x7_3 < x4_1)) true (wrap64 (x7_3 + 1))) else (r_Growing.l1 k3 l0 x3_1 x4_1 (decide (x7_3 < x4_1)) (decide (x7_3 > x4_1)) (wrap64 (x7_3 + 1)))) = some r := by rw [if_neg (show ¬ (false = true) by decide)] at H; exact H
       clear H
       have H := H1
       clear H1
       by_cases c18 : x6_3 = true
       ·subst c18
        have H1 : (r_Growing.l1 k3 l0 x3_1 x4_1 (decide (x7_3 < x4_1)) true (wrap64 (x7_3 + 1))) = some r := by rw [if_pos rfl] at H; exact H
        clear H
        have H := H1
        clear H1
        have H' := As.mk H
        clear H
        have p200 : 0 ≤ (x7_3 : Int) := of_decide_eq_true (by with_reducible assumption)
        have q200 : x7_3 < (l0.length : Int) := of_decide_eq_true (by with_reducible assumption)
        obtain ⟨ad200, A200_6, c200_6, e200, hx200_0, hx200_1, hx200_2, hx200_3, hx200_4, hx200_5, hx200_6, hl200_6, hi200_6⟩ := at_T33 HR0.out x7_3 p200 q200
        cases e200
        replace hx200_0 := ct HB.out hx200_0
        replace hx200_1 := ct HB.out hx200_1
        replace hx200_2 := ct HB.out hx200_2
        replace hx200_3 := ct HB.out hx200_3
        replace hx200_4 := ct HB.out hx200_4
        replace hx200_5 := ct HB.out hx200_5
        replace hx200_6 := ct HB.out hx200_6
        have HR200_6 := As.mk hi200_6
        have HC200_6 := As.mk hl200_6
        clear hi200_6 hl200_6
        replace p200 := eq_true p200
        replace q200 := eq_true q200
        go_wp2_with (first | (go_at_call 35; (with_reducible refine (r_solid.calls ((rd_T33 l0 x7_3).f0) ((rd_T33 l0 x7_3).f1) ((rd_T33 l0 x7_3).f2) ((rd_T33 l0 x7_3).f3) ((rd_T33 l0 x7_3).f4) ((rd_T33 l0 x7_3).f5) _ _ ((rd_T33 l0 x7_3).f6) true _ ?side1 ?side2 A12.out).mono ?_); (case side1 => exact Kd.C_below HR200_6.out (bl HB.out)); (case side2 => exact HC200_6.out); rintro e w19 ⟨rfl, hb⟩; have n0_ := As.mk (Kd.R_below (Ru HO_3.out) hb); have n1_ := As.mk (below_step (bl HB.out) hb); clear HO_3; clear HB; have HO_3 := n0_; have HB := n1_; clear n0_ n1_; (try clear hb)))
        go_roundg k3
        case measure => have := HK1.out; have := HJ2.out; have := HK3.out; omega
        case rel => exact ⟨(decide (x7_3 < x4_1)), (true), (wrap64 (x7_3 + 1)), (by first | rfl | simp [*]), (by first | rfl | simp [*]), (by first | rfl | simp [*]), H', ⟨by have := HK1.out; have := HJ2.out; have := HK3.out; omega⟩, ⟨Ru HO_3.out⟩, ⟨bl HB.out⟩⟩
       replace c18 := Bool.eq_false_iff.mpr c18
       subst c18
       have H1 : (r_Growing.l1 k3 l0 x3_1 x4_1 (decide (x7_3 < x4_1)) (decide (x7_3 > x4_1)) (wrap64 (x7_3 + 1))) = some r := by rw [if_neg (show ¬ (false = true) by decide)] at H; exact H
       clear H
       have H := H1
       clear H1
       have H' := As.mk H
       clear H
       have p200 : 0 ≤ (x7_3 : Int) := of_decide_eq_true (by with_reducible assumption)
       have q200 : x7_3 < (l0.length : Int) := of_decide_eq_true (by with_reducible assumption)
       obtain ⟨ad200, A200_6, c200_6, e200, hx200_0, hx200_1, hx200_2, hx200_3, hx200_4, hx200_5, hx200_6, hl200_6, hi200_6⟩ := at_T33 HR0.out x7_3 p200 q200
       cases e200
       replace hx200_0 := ct HB.out hx200_0
       replace hx200_1 := ct HB.out hx200_1
       replace hx200_2 := ct HB.out hx200_2
       replace hx200_3 := ct HB.out hx200_3
       replace hx200_4 := ct HB.out hx200_4
       replace hx200_5 := ct HB.out hx200_5
       replace hx200_6 := ct HB.out hx200_6
       have HR200_6 := As.mk hi200_6
       have HC200_6 := As.mk hl200_6
       clear hi200_6 hl200_6
       replace p200 := eq_true p200
       replace q200 := eq_true q200
       go_wp2_with (first | (go_at_call 35; (with_reducible refine (r_solid.calls ((rd_T33 l0 x7_3).f0) ((rd_T33 l0 x7_3).f1) ((rd_T33 l0 x7_3).f2) ((rd_T33 l0 x7_3).f3) ((rd_T33 l0 x7_3).f4) ((rd_T33 l0 x7_3).f5) _ _ ((rd_T33 l0 x7_3).f6) true _ ?side1 ?side2 A12.out).mono ?_); (case side1 => exact Kd.C_below HR200_6.out (bl HB.out)); (case side2 => exact HC200_6.out); rintro e w20 ⟨rfl, hb⟩; have n0_ := As.mk (Kd.R_below (Ru HO_3.out) hb); have n1_ := As.mk (below_step (bl HB.out) hb); clear HO_3; clear HB; have HO_3 := n0_; have HB := n1_; clear n0_ n1_; (try clear hb)))
       go_roundg k3
       case measure => have := HK1.out; have := HJ2.out; have := HK3.out; omega
       case rel => exact ⟨(decide (x7_3 < x4_1)), (decide (x7_3 > x4_1)), (wrap64 (x7_3 + 1)), (by first | rfl | simp [*]), (by first | rfl | simp [*]), (by first | rfl | simp [*]), H', ⟨by have := HK1.out; have := HJ2.out; have := HK3.out; omega⟩, ⟨Ru HO_3.out⟩, ⟨bl HB.out⟩⟩
end Go.Proofs.Yteadghhmoggjnaa.Q
end
end
section
section
namespace Go.Proofs.YteadghhmoggjnaaB
open Go.RowKit
open Go.Proofs.Yteadghhmoggjnaa.Q
open Go.Proofs.YteadghhmoggjnaaW.PrintWords Go.Proofs.YteadghhmoggjnaaW.PrintLast
set_option maxHeartbeats 800000
theorem rdT_at {l : List S33} {j : Nat} {x : S33} (h : l[j]? = some x) : rd_T33 l (j : Int) = x := by
 unfold rd_T33
 rw [Int.toNat_natCast, List.getD_eq_getElem?_getD, h]
 rfl
theorem w64_succ {j : Nat} (h : j ≤ 1000000000000) : wrap64 ((j : Int) + 1) = ((j + 1 : Nat) : Int) := by
 unfold wrap64
 omega
theorem ref_width_l (l : List S33) (hl : l.length ≤ 1000000000000) : ∀ (k j : Nat), j ≤ l.length → l.length < k + j → s_Width.l0 k l (widthW (l.take j)) (j : Int) = some (widthW l)
 | 0, j, h1, h2 => by omega
 | k + 1, j, h1, h2 => by
  unfold s_Width.l0
  by_cases hj : j < l.length
  ·rw [if_pos (by omega), if_pos (by omega)]
   obtain ⟨x, hx⟩ : ∃ x, l[j]? = some x := ⟨_, List.getElem?_eq_getElem hj⟩
   rw [rdT_at hx, w64_succ (by omega)]
   have ih := ref_width_l l hl k (j + 1) (by omega) (by omega)
   by_cases h3 : x.f0 = 3
   ·rw [if_pos h3]
    rw [width_no hx (by simp [counts, h3])] at ih
    exact ih
   ·rw [if_neg h3]
    by_cases h5 : x.f0 = 5
    ·rw [if_pos h5]
     rw [width_no hx (by simp [counts, h5])] at ih
     exact ih
    ·rw [if_neg h5]
     by_cases h0 : x.f0 ≥ 0
     ·rw [if_pos h0]
      by_cases h6 : x.f0 ≤ 6
      ·rw [if_pos h6]
       have hc : counts x = true := by
        have : x.f0 = 0 ∨ x.f0 = 1 ∨ x.f0 = 2 ∨ x.f0 = 4 ∨ x.f0 = 6 := by omega
        unfold counts
        rcases this with h | h | h | h | h <;> simp [h]
       rw [width_yes hx hc] at ih
       exact ih
      ·rw [if_neg h6]
       rw [width_no hx (by unfold counts; simp; omega)] at ih
       exact ih
     ·rw [if_neg h0]
      rw [width_no hx (by unfold counts; simp; omega)] at ih
      exact ih
  ·rw [if_neg (by omega), List.take_of_length_le (by omega)]
theorem ref_width (l : List S33) (hl : l.length ≤ 1000000000000) {k : Nat} (hk : l.length < k) : s_Width.f k l = some (widthW l) := ref_width_l l hl k 0 (Nat.zero_le _) hk
theorem rd_at {l : List Int} {j : Nat} {x : Int} (h : l[j]? = some x) : rd l (j : Int) = x := by
 unfold rd
 rw [Int.toNat_natCast, List.getD_eq_getElem?_getD, h]
 rfl
end Go.Proofs.YteadghhmoggjnaaB
end
section
namespace Go.Proofs.YteadghhmoggjnaaB
open Go.RowKit
open Go.Proofs.Yteadghhmoggjnaa.Q
open Go.Proofs.YteadghhmoggjnaaW.PrintWords Go.Proofs.YteadghhmoggjnaaW.PrintLast
set_option maxHeartbeats 800000
def befB (l : List S33) (i j : Nat) : Bool := !(noneB solidG ((l.take j).take i))
def aftB (l : List S33) (i j : Nat) : Bool := !(noneB solidG ((l.take j).drop (i + 1)))
theorem none_snoc (p : S33 → Bool) (l : List S33) (x : S33) : noneB p (l ++ [x]) = (noneB p l && !(p x)) := by
 unfold noneB
 rw [List.all_append, List.all_cons, List.all_nil, Bool.and_true]
theorem befB_step {l : List S33} {i j : Nat} {x : S33} (h : l[j]? = some x) : befB l i (j + 1) = (befB l i j || (solidG x && decide (j < i))) := by
 obtain ⟨hj, rfl⟩ := List.getElem?_eq_some_iff.1 h
 unfold befB
 rw [List.take_take, List.take_take]
 by_cases hi : j < i
 ·rw [Nat.min_eq_right (by omega), Nat.min_eq_right (by omega), List.take_succ_eq_append_getElem hj, none_snoc, decide_eq_true hi]
  cases noneB solidG (l.take j) <;> cases solidG l[j] <;> rfl
 ·rw [Nat.min_eq_left (by omega), Nat.min_eq_left (by omega), decide_eq_false hi]
  simp
theorem aftB_step {l : List S33} {i j : Nat} {x : S33} (h : l[j]? = some x) : aftB l i (j + 1) = (aftB l i j || (solidG x && decide (j > i))) := by
 obtain ⟨hj, rfl⟩ := List.getElem?_eq_some_iff.1 h
 unfold aftB
 have hl : (l.take j).length = j := by rw [List.length_take]; omega
 rw [List.take_succ_eq_append_getElem hj]
 by_cases hi : j > i
 ·rw [List.drop_append_of_le_length (by omega), none_snoc, decide_eq_true hi]
  cases noneB solidG ((l.take j).drop (i + 1)) <;> cases solidG l[j] <;> rfl
 ·rw [List.drop_eq_nil_of_le (by rw [List.length_append, hl]; simp; omega), List.drop_eq_nil_of_le (by omega), decide_eq_false hi]
  simp
theorem solid_f (x : S33) : r_solid.f x.f0 x.f1 x.f2 x.f3 x.f4 x.f5 x.f6 = some (solidG x) := by
 unfold r_solid.f solidG
 by_cases h : x.f0 = 1
 ·rw [if_pos h, h]; rfl
 ·rw [if_neg h]
  have : (x.f0 != 1) = true := bne_iff_ne.2 h
  rw [this, Bool.true_and]
theorem grow_l1 (l : List S33) (hl : l.length ≤ 1000000) (acc : List Int) (hacc : acc.length < 17592186044416) (i : Nat) (R : Option (List Int)) (k0 : Nat)
  (hR : r_Growing.l0 k0 l (if (befB l i l.length && aftB l i l.length) = true then acc ++ [(i : Int)] else acc) (wrap64 ((i : Int) + 1)) = R) :
  ∀ (d j : Nat), j + d = l.length → r_Growing.l1 (k0 + 1 + d) l acc (i : Int) (befB l i j) (aftB l i j) (j : Int) = R
 | 0, j, h => by
  obtain rfl : j = l.length := by omega
  rw [Nat.add_zero, r_Growing.l1, if_neg (by omega)]
  cases hb : befB l i l.length <;> cases ha : aftB l i l.length <;> rw [hb, ha] at hR
  ·rw [if_neg (by decide)]; exact hR
  ·rw [if_neg (by decide)]; exact hR
  ·rw [if_pos rfl, if_neg (by decide)]; exact hR
  ·rw [if_pos rfl, if_pos rfl, if_pos hacc]; exact hR
 | d + 1, j, h => by
  have hj : j < l.length := by omega
  obtain ⟨x, hx⟩ : ∃ x, l[j]? = some x := ⟨_, List.getElem?_eq_getElem hj⟩
  have ih := grow_l1 l hl acc hacc i R k0 hR d (j + 1) (by omega)
  rw [befB_step hx, aftB_step hx] at ih
  rw [show k0 + 1 + (d + 1) = (k0 + 1 + d) + 1 by omega, r_Growing.l1, if_pos (by omega), if_pos (by omega), rdT_at hx, solid_f, Option.bind_some, w64_succ (by omega)]
  have e1 : decide ((j : Int) < (i : Int)) = decide (j < i) := by rw [decide_eq_decide]; omega
  have e2 : decide ((j : Int) > (i : Int)) = decide (j > i) := by rw [decide_eq_decide]; omega
  rw [e1, e2]
  cases hs : solidG x <;> rw [hs] at ih <;> cases hb : befB l i j <;> cases ha : aftB l i j <;> rw [hb, ha] at ih <;> simpa using ih
theorem grow_l0 (l : List S33) (hl : l.length ≤ 1000000) : ∀ (m i k : Nat), i + m = l.length → (l.length + 4) * m + 1 ≤ k → r_Growing.l0 k l (growTo l i) (i : Int) = some (growL l)
 | m, i, 0, _, h => by omega
 | 0, i, k + 1, h, _ => by
  obtain rfl : i = l.length := by omega
  rw [r_Growing.l0, if_neg (by omega)]
  rfl
 | m + 1, i, k + 1, h, hk => by
  have hi : i < l.length := by omega
  have hmul : (l.length + 4) * (m + 1) = (l.length + 4) * m + (l.length + 4) := Nat.mul_succ _ _
  obtain ⟨x, hx⟩ : ∃ x, l[i]? = some x := ⟨_, List.getElem?_eq_getElem hi⟩
  have hacc : (growTo l i).length < 17592186044416 := by have := growTo_len l i; omega
  have ih : ∀ k', (l.length + 4) * m + 1 ≤ k' → r_Growing.l0 k' l (growTo l (i + 1)) (wrap64 ((i : Int) + 1)) = some (growL l) := fun k' h' => by
   rw [w64_succ (by omega)]
   exact grow_l0 l hl m (i + 1) k' (by omega) h'
  obtain ⟨k2, rfl⟩ : ∃ k2, k = k2 + 1 := ⟨k - 1, by omega⟩
  have hno : grw l i = false → r_Growing.j1 (k2 + 1) l (growTo l i) (i : Int) true = some (growL l) := fun hg => by
   rw [r_Growing.j1, if_pos rfl]
   have := ih k2 (by omega)
   rw [growTo_no hg] at this
   exact this
  have hyes : lastB l i = true → r_Growing.j1 (k2 + 1) l (growTo l i) (i : Int) false = some (growL l) := fun hb => by
   rw [r_Growing.j1, if_neg (by decide)]
   obtain ⟨k3, rfl⟩ : ∃ k3, k2 = k3 + 1 + l.length := ⟨k2 - 1 - l.length, by omega⟩
   have e : grw l i = (befB l i l.length && aftB l i l.length) := by
    unfold grw befB aftB
    rw [hb, List.take_length, Bool.true_and]
   have hb0 : befB l i 0 = false := by unfold befB noneB; simp
   have ha0 : aftB l i 0 = false := by unfold aftB noneB; simp
   have main := grow_l1 l hl (growTo l i) hacc i (some (growL l)) k3 (by
    rw [← e]
    cases hg : grw l i
    ·have := ih k3 (by omega)
     rw [growTo_no hg] at this
     exact this
    ·have := ih k3 (by omega)
     rw [growTo_yes hg] at this
     exact this) l.length 0 (by omega)
   rw [hb0, ha0] at main
   exact main
  rw [r_Growing.l0, if_pos (by omega), if_pos (by omega), rdT_at hx]
  by_cases h1 : x.f0 = 1
  ·have hsx : spaceB x = true := by unfold spaceB; rw [h1]; rfl
   rw [if_pos h1, w64_succ (by omega)]
   by_cases h2 : i + 1 < l.length
   ·rw [if_pos (by omega), if_pos (by omega)]
    obtain ⟨y, hy⟩ : ∃ y, l[i + 1]? = some y := ⟨_, List.getElem?_eq_getElem h2⟩
    rw [rdT_at hy]
    have hm := lastB_mid hx hsx hy
    cases hsy : (y.f0 == 1)
    ·exact hyes (by rw [hm]; unfold spaceB; rw [hsy]; rfl)
    ·exact hno (by unfold grw; rw [hm]; unfold spaceB; rw [hsy]; rfl)
   ·rw [if_neg (by omega)]
    exact hyes (lastB_end hx hsx (by omega))
  ·rw [if_neg h1]
   exact hno (by unfold grw; rw [lastB_no hx (by unfold spaceB; exact beq_eq_false_iff_ne.2 h1)]; rfl)
theorem ref_growing (l : List S33) (hl : l.length ≤ 1000000) {k : Nat} (hk : (l.length + 4) * l.length + 1 ≤ k) : r_Growing.f k l = some (growL l) := by
 unfold r_Growing.f
 exact grow_l0 l hl l.length 0 k (by omega) hk
end Go.Proofs.YteadghhmoggjnaaB
end
section
namespace Go.Proofs.YteadghhmoggjnaaB
open Go.RowKit
open Go.Proofs.Yteadghhmoggjnaa.Q (S33)
set_option maxHeartbeats 800000
theorem growTo_mem {l : List S33} {k : Nat} {p : Int} (h : p ∈ growTo l k) : ∃ q : Nat, p = q ∧ q < k ∧ grw l q = true := by
 unfold growTo at h
 obtain ⟨q, hq, rfl⟩ := List.mem_map.1 h
 have := List.mem_filter.1 hq
 exact ⟨q, rfl, List.mem_range.1 this.1, this.2⟩
theorem growL_mem {l : List S33} {p : Int} (h : p ∈ growL l) : ∃ q x, p = ((q : Nat) : Int) ∧ l[q]? = some x ∧ x.f0 = 1 := by
 obtain ⟨q, rfl, hq, hg⟩ := growTo_mem h
 obtain ⟨x, hx⟩ : ∃ x, l[q]? = some x := ⟨_, List.getElem?_eq_getElem hq⟩
 refine ⟨q, x, rfl, hx, ?_⟩
 cases hs : spaceB x with
 | true => unfold spaceB at hs; simpa using hs
 | false =>
  unfold grw at hg
  rw [lastB_no hx hs] at hg
  cases hg
theorem growL_nodup (l : List S33) : (growL l).Nodup := by
 unfold growL growTo
 rw [List.Nodup, List.pairwise_map]
 exact ((List.nodup_range).sublist List.filter_sublist).imp (fun h e => h (by omega))
theorem growL_inj {l : List S33} {i k : Nat} {p : Int} (hi : (growL l)[i]? = some p) (hk : (growL l)[k]? = some p) : i = k := by
 obtain ⟨h1, e1⟩ := List.getElem?_eq_some_iff.1 hi
 obtain ⟨h2, e2⟩ := List.getElem?_eq_some_iff.1 hk
 have hp := List.pairwise_iff_getElem.1 (growL_nodup l)
 rcases Nat.lt_trichotomy i k with h | h | h
 ·exact absurd (e1.trans e2.symm) (hp i k h1 h2 h)
 ·exact h
 ·exact absurd (e2.trans e1.symm) (hp k i h2 h1 h)
section
variable (l : List S33) (each more : Int) (odd : Bool)
theorem spread_at (k : Nat) (hk : k ≤ (growL l).length) : (∀ i q x, i < k → (growL l)[i]? = some ((q : Nat) : Int) → l[q]? = some x → (spreadTo l (growL l) each more odd k)[q]? = some (grown each more (growL l).length odd i x)) ∧
  (∀ q : Nat, (∀ i, i < k → (growL l)[i]? ≠ some (q : Int)) → (spreadTo l (growL l) each more odd k)[q]? = l[q]?) := by
 induction k with
 | zero => exact ⟨fun i q x h => by omega, fun q _ => rfl⟩
 | succ k ih =>
  obtain ⟨ih1, ih2⟩ := ih (by omega)
  obtain ⟨p, hp⟩ : ∃ p, (growL l)[k]? = some p := ⟨_, List.getElem?_eq_getElem (by omega)⟩
  obtain ⟨q0, x0, rfl, hx0, -⟩ := growL_mem (List.mem_of_getElem? hp)
  have hs : spreadTo l (growL l) each more odd (k + 1) = (spreadTo l (growL l) each more odd k).modify q0 (grown each more (growL l).length odd k) := by
   show (match (growL l)[k]? with | some i => _ | none => _) = _
   rw [hp]
   rfl
  rw [hs]
  have h0 : (spreadTo l (growL l) each more odd k)[q0]? = some x0 := by
   rw [ih2 q0 (fun i hi e => by have := growL_inj e hp; omega), hx0]
  refine ⟨fun i q x hi hg hx => ?_, fun q hq => ?_⟩
  ·rw [List.getElem?_modify]
   by_cases hik : i = k
   ·subst hik
    rw [hp] at hg
    have : q0 = q := by injection hg with hg; omega
    subst this
    rw [hx0] at hx
    injection hx with hx
    subst hx
    rw [h0]
    show some (if q0 = q0 then _ else _) = _
    rw [if_pos rfl]
   ·have hne : q0 ≠ q := by
     rintro rfl
     exact hik (growL_inj hg hp)
    rw [ih1 i q x (by omega) hg hx]
    show some (if q0 = q then _ else _) = _
    rw [if_neg hne]
  ·have hne : q0 ≠ q := by
    rintro rfl
    exact hq k (by omega) hp
   rw [List.getElem?_modify, ih2 q (fun i hi => hq i (by omega))]
   cases l[q]? with
   | none => rfl
   | some y =>
    show some (if q0 = q then _ else _) = _
    rw [if_neg hne]
end
end Go.Proofs.YteadghhmoggjnaaB
end
end
