import Derived.Test.YteadghhmoggjnaaFM15
set_option linter.unusedVariables false
set_option linter.unusedSimpArgs false
section
namespace Go.Proofs.Yteadghhmoggjnaa.Q
open Go.RowKit YteadghhmoggjnaaW.PrintWords YteadghhmoggjnaaW.PrintLast YteadghhmoggjnaaW.PrintMore
attribute [local go_sem] max2_int max_two
set_option maxHeartbeats 8000000
set_option maxRecDepth 100000
mutual
def r_Points.l0 : Nat → List (S33) → List Int → List Int → Int → Option ((List (S33)))
 | 0, _, _, _, _ => none
 | k + 1, x0, x1, x5, x6 => if x6 < (x1.length : Int) then (if 0 ≤ x6 then (if (rd x1 x6) ≥ 0 then (if (rd x1 x6) < (x0.length : Int) then (if (x5.length : Int) = 0 then (if x5.length < 17592186044416 then (r_Points.l0 k x0 x1 (x5 ++ [rd x1 x6]) (wrap64 (x6 + 1))) else (none)) else (if 0 ≤ (wrap64 ((x5.length : Int) - 1)) then (if (wrap64 ((x5.length : Int) - 1)) < (x5.length : Int) then (if (rd x1 x6) > (rd x5 (wrap64 ((x5.length : Int) - 1))) then (if x5.length < 17592186044416 then (r_Points.l0 k x0 x1 (x5 ++ [rd x1 x6]) (wrap64 (x6 + 1))) else (none)) else (r_Points.l0 k x0 x1 x5 (wrap64 (x6 + 1)))) else (none)) else (none))) else (r_Points.l0 k x0 x1 x5 (wrap64 (x6 + 1)))) else (r_Points.l0 k x0 x1 x5 (wrap64 (x6 + 1)))) else (none)) else (r_Points.l1 k x0 x5 ([] : List (S33)) 0)
def r_Points.l1 : Nat → List (S33) → List Int → List (S33) → Int → Option ((List (S33)))
 | 0, _, _, _, _ => none
 | k + 1, x0, x5, x7, x8 => if x8 < (x0.length : Int) then (r_Points.l2 k x0 x5 x7 x8 0) else (some x7)
def r_Points.l2 : Nat → List (S33) → List Int → List (S33) → Int → Int → Option ((List (S33)))
 | 0, _, _, _, _, _ => none
 | k + 1, x0, x5, x7, x8, x9 => if x9 < (x5.length : Int) then (if 0 ≤ x9 then (if (rd x5 x9) = x8 then (if x7.length < 1599289640401 then (r_Points.l2 k x0 x5 (x7 ++ [(⟨5, 0, 0, 0, (⟨#[]⟩ : ByteArray), (⟨#[]⟩ : ByteArray), ([] : List Int)⟩ : S33)]) x8 (wrap64 (x9 + 1))) else (none)) else (r_Points.l2 k x0 x5 x7 x8 (wrap64 (x9 + 1)))) else (none)) else (if 0 ≤ x8 then (if x8 ≤ (wrap64 (x8 + 1)) then (if (wrap64 (x8 + 1)) ≤ (x0.length : Int) then ((r_own.f k ((x0.take ((wrap64 (x8 + 1)) : Int).toNat).drop (x8 : Int).toNat)).bind fun t647 => (if x7.length + t647.length < 1599289640401 then (r_Points.l1 k x0 x5 (x7 ++ t647) (wrap64 (x8 + 1))) else (none))) else (none)) else (none)) else (none))
end
def r_Points.f (k : Nat) (l0 : List (S33)) (l1 : List Int) : Option ((List (S33))) := r_Points.l0 k l0 l1 ([] : List Int) 0
theorem r_Points.calls (k : Nat) (A0 : Option Addr) (c0 : Nat) (l0 : List (S33)) (A1 : Option Addr) (c1 : Nat) (l1 : List Int) (r : List (S33)) (w : World) (hr0 : Kd.C k33 w A0 l0.length l0) (hc0 : l0.length ≤ c0) (hr1 : Kd.C (Kd.int .i64) w A1 l1.length l1) (hc1 : l1.length ≤ c1) (h : r_Points.f k l0 l1 = some r) :
  Calls Try.prog 52 #[.slice A0 l0.length c0, .slice A1 l1.length c1] w fun e w' => ∃ v0_ : Value, e = .returned (v0_) ∧ Kd.N k33 33 w' w.heap.size (fun k_ => (w.heap.size ≤ k_)) v0_ r ∧ Below w.heap.size w w' := by
 have hu33 := Try.underlying33
 have HR0 := o_ hr0
 have HC0 := o_ hc0
 clear hr0 hc0
 have HR1 := o_ hr1
 have HC1 := o_ hc1
 clear hr1 hc1
 have HB := o_ (Below.refl w.heap.size w)
 have H : (r_Points.l0 k l0 l1 ([] : List Int) 0) = some r := h
 clear h
 have H' := o_ H
 clear H
 go_enter Try.func52, Try.ntmps52
 go_wp2
 repeat (go_quiet (fail); try go_wp2)
 go_loopg [5, 6] k (fun kq v5 v6 w' => ∃ (x5_1 : List Int) (x6_1 : Int), v6 = .int .i64 x6_1 ∧ As (r_Points.l0 kq l0 l1 x5_1 x6_1 = some r) ∧ As (kq ≤ k) ∧ As (Kd.R (Kd.int .i64) 3 w' w.heap.size (fun k_ => (w.heap.size ≤ k_)) v5 x5_1) ∧ As (Below w.heap.size w w'))
 case atStart => exact ⟨(([] : List Int)), (0), (by first | rfl | simp [*]), H', ⟨Nat.le_refl _⟩, ⟨by first | exact Kd.R_nil _ _ _ _ _ | exact Kd.N_nil _ _ _ _ _ | exact Kd.V_nil _ _ _ _ _ | exact Kd.Q_nil _ _ _ _ _ | exact Kd.S_nil _ _ _ _ _⟩, ⟨bl HB⟩⟩
 case round =>
  clear H'
  obtain ⟨x5_1, x6_1, rfl, HA, HK1, HO_5, HB⟩ := hrel
  cases gk with
  | zero => exact absurd HA.out (by simp [r_Points.l0])
  | succ k1 =>
   have H := HA.out
   clear HA
   simp only [r_Points.l0] at H
   by_cases c3 : x6_1 < (l1.length : Int)
   rotate_left
   ·rw [if_neg c3] at H
    have c3b0 := decide_eq_false c3
    clear c3
    have H' := o_ H
    clear H
    go_wp2
    repeat (go_quiet (fail); try go_wp2)
    go_loopg [7, 8] k1 (fun kq v7 v8 w' => ∃ (x7_2 : List (S33)) (x8_2 : Int), v8 = .int .i64 x8_2 ∧ As (r_Points.l1 kq l0 x5_1 x7_2 x8_2 = some r) ∧ As (kq ≤ k1) ∧ As (Kd.R (Kd.int .i64) 3 w' w.heap.size (fun k_ => (w.heap.size ≤ k_)) u5 x5_1) ∧ As (Kd.N k33 33 w' w.heap.size (fun k_ => (w.heap.size ≤ k_) ∧ some k_ ≠ (u5 : Value).ownBlock) v7 x7_2) ∧ As (Below w.heap.size w w'))
    case atStart => exact ⟨(([] : List (S33))), (0), (by first | rfl | simp [*]), H', ⟨Nat.le_refl _⟩, ⟨Ru HO_5⟩, ⟨by first | exact Kd.S_nil _ _ _ _ _ | exact Kd.N_nil _ _ _ _ _ | exact Kd.V_nil _ _ _ _ _ | exact Kd.Q_nil _ _ _ _ _ | exact Kd.R_nil _ _ _ _ _⟩, ⟨bl HB⟩⟩
    case round =>
     clear H'
     try clear q6
     try clear hx6
     try clear hx627_0
     try clear hx628_0
     try clear hx629_0
     try clear hx633_0
     try clear hx634_0
     try clear hx635_0
     try clear q627
     try clear q628
     try clear q629
     try clear q633
     try clear q634
     try clear q635
     obtain ⟨x7_2, x8_2, rfl, HA, HK2, HO_5, HO_7, HB⟩ := hrel
     cases gk with
     | zero => exact absurd HA.out (by simp [r_Points.l1])
     | succ k2 =>
      have H := HA.out
      clear HA
      simp only [r_Points.l1] at H
      by_cases c19 : x8_2 < (l0.length : Int)
      rotate_left
      ·rw [if_neg c19] at H
       have c19b0 := decide_eq_false c19
       clear c19
       obtain rfl := Option.some.inj H
       go_wp2
       repeat (go_quiet (fail); try go_wp2)
       go_ret
       exact ⟨_, by first | rfl | (simp [*] <;> rfl), by (with_reducible repeat (first | apply Kd.N_alloc | apply Kd.N_drewN | apply Kd.N_drew)); exact Kd.N_mono HO_7.out (fun _ hk => hk.1), bl HB⟩
      rw [if_pos c19] at H
      have c19b0 := decide_eq_true c19
      clear c19
      have H' := o_ H
      clear H
      go_wp2
      repeat (go_quiet (fail); try go_wp2)
      go_loopg [7, 9] k2 (fun kq v7 v9 w' => ∃ (x7_3 : List (S33)) (x9_3 : Int), v9 = .int .i64 x9_3 ∧ As (r_Points.l2 kq l0 x5_1 x7_3 x8_2 x9_3 = some r) ∧ As (kq ≤ k2) ∧ As (Kd.R (Kd.int .i64) 3 w' w.heap.size (fun k_ => (w.heap.size ≤ k_)) u5 x5_1) ∧ As (Kd.N k33 33 w' w.heap.size (fun k_ => (w.heap.size ≤ k_) ∧ some k_ ≠ (u5 : Value).ownBlock) v7 x7_3) ∧ As (Below w.heap.size w w'))
      case atStart => exact ⟨(x7_2), (0), (by first | rfl | simp [*]), H', ⟨Nat.le_refl _⟩, ⟨Ru HO_5⟩, ⟨Nu HO_7⟩, ⟨bl HB⟩⟩
      case round =>
       clear H'
       try clear q6
       try clear hx6
       try clear hx627_0
       try clear hx628_0
       try clear hx629_0
       try clear hx633_0
       try clear hx634_0
       try clear hx635_0
       try clear q6
       try clear q627
       try clear q628
       try clear q629
       try clear q633
       try clear q634
       try clear q635
       obtain ⟨x7_3, x9_3, rfl, HA, HK3, HO_5, HO_7, HB⟩ := hrel
       cases gk with
       | zero => exact absurd HA.out (by simp [r_Points.l2])
       | succ k3 =>
        have H := HA.out
        clear HA
        simp only [r_Points.l2] at H
        by_cases c20 : x9_3 < (x5_1.length : Int)
        ·rw [if_pos c20] at H
         have c20b0 := decide_eq_true c20
         clear c20
         by_cases c21 : 0 ≤ x9_3
         rotate_left
         ·rw [if_neg c21] at H
          exact absurd H (by simp)
         rw [if_pos c21] at H
         have c21b0 := decide_eq_true c21
         clear c21
         by_cases c22 : (rd x5_1 x9_3) = x8_2
         rotate_left
         ·rw [if_neg c22] at H
          have c22b0 : ((rd x5_1 x9_3) == x8_2) = false := beq_eq_false_iff_ne.mpr c22
          have c22b1 : ((rd x5_1 x9_3) != x8_2) = true := bne_iff_ne.mpr c22
          have H' := o_ H
          clear H
          obtain ⟨Ao26, co26, eo26⟩ := Kd.R_slice HO_5.out
          subst eo26
          have p639 : 0 ≤ (x9_3 : Int) := oa
          have q639 : x9_3 < (x5_1.length : Int) := oa
          obtain ⟨ad639, e639, hx639_0⟩ := Kd.at_int (Kd.R_reads' HO_5.out).2.2 x9_3 p639 q639
          cases e639
          replace p639 := eq_true p639
          replace q639 := eq_true q639
          go_wp2
          repeat (go_quiet (fail); try go_wp2)
          go_roundg k3
          case measure => have := HK1.out; have := HK2.out; have := HK3.out; omega
          case rel => exact ⟨(x7_3), (wrap64 (x9_3 + 1)), (by first | rfl | simp [*]), H', ⟨by have := HK1.out; have := HK2.out; have := HK3.out; omega⟩, ⟨Ru HO_5⟩, ⟨Nu HO_7⟩, ⟨bl HB⟩⟩
         rw [if_pos c22] at H
         have c22b0 : ((rd x5_1 x9_3) == x8_2) = true := beq_iff_eq.mpr c22
         have c22b1 : ((rd x5_1 x9_3) != x8_2) = false := bne_eq_false_iff_eq.mpr c22
         clear c22
         by_cases c23 : x7_3.length < 1599289640401
         rotate_left
         ·rw [if_neg c23] at H
          exact absurd H (by simp)
         rw [if_pos c23] at H
         have LMc23 := o_ c23
         clear c23
         obtain ⟨y640, hy640⟩ : ∃ y_ : List (S33), y_ = (x7_3 ++ [(⟨5, 0, 0, 0, (⟨#[]⟩ : ByteArray), (⟨#[]⟩ : ByteArray), ([] : List Int)⟩ : S33)]) := ⟨_, rfl⟩
         replace H : (r_Points.l2 k3 l0 x5_1 y640 x8_2 (wrap64 (x9_3 + 1))) = some r := by first | (rw [hy640]; with_reducible exact H) | (have H2_ := (Option.bind_some _ _).symm.trans H; rw [hy640]; with_reducible exact H2_) | (have H2_ := (Option.bind_some _ _).symm.trans H; with_reducible exact H2_) | with_reducible exact H | (rw [hy640]; exact H) | exact H
         have Ny640 := o_ hy640
         clear hy640
         have H' := o_ H
         clear H
         obtain ⟨Ao24, co24, eo24⟩ := Kd.R_slice HO_5.out
         subst eo24
         have p639 : 0 ≤ (x9_3 : Int) := oa
         have q639 : x9_3 < (x5_1.length : Int) := oa
         obtain ⟨ad639, e639, hx639_0⟩ := Kd.at_int (Kd.R_reads' HO_5.out).2.2 x9_3 p639 q639
         cases e639
         replace p639 := eq_true p639
         replace q639 := eq_true q639
         go_wp2_with (first | ((with_reducible refine gate_builtin (b := .append) (xs := #[.tmp 73, .tmp 75]) rfl ?_); (try (refine gate_guard (by rfl) ?_; dsimp only)); at_builtin; refine Kd.N_append k33 (w0 := w) w.heap.size rfl (.tmp 73) (.tmp 75) 23 33 (.agg #[(.int .i64 0), (.int .i64 0), (.int .i64 0), (.int .i64 0), (.string ⟨#[]⟩), (.string ⟨#[]⟩), (.slice none 0 0)]) 88 rfl Try.underlying23 info33 rfl (by decide) (by omega) u7 x7_3 (⟨5, 0, 0, 0, (⟨#[]⟩ : ByteArray), (⟨#[]⟩ : ByteArray), ([] : List Int)⟩ : S33) [.int .i64 5, .int .i64 0, .int .i64 0, .int .i64 0, .string ⟨#[]⟩, .string ⟨#[]⟩, .slice none 0 0] (fun k_ => (w.heap.size ≤ k_) ∧ some k_ ≠ (.slice (some ad639) x5_1.length co24 : Value).ownBlock) (fun k_ => ((fun k_ => (w.heap.size ≤ k_) ∧ some k_ ≠ (.slice (some ad639) x5_1.length co24 : Value).ownBlock)) k_ ∧ some k_ ≠ (u7 : Value).ownBlock) rfl rfl ?aP (fun _ hk => hk) ?aF ?aO ?aB ?aS ?aL ?_; (case aP => exact (k33_mkF _ _ (⟨5, 0, 0, 0, (⟨#[]⟩ : ByteArray), (⟨#[]⟩ : ByteArray), ([] : List Int)⟩ : S33) (Nat.le_refl _) (Kd.F_nil _ _ _))); (case aB => exact (bl HB)); (case aF => exact (fun k_ hk => ⟨(Nat.le_trans (below_size (bl HB)) hk), Kd.fresh' (Kd.R_lt (Ru HO_5)) k_ hk⟩)); (case aO => exact (Nu HO_7)); (case aS => exact (below_size (bl HB))); (case aL => have := LMc23.out; omega); intro v641 w25 ho hb hg hat; rw [← Ny640.out] at ho; have n0_ := o_ (Kd.R_over' (Ru HO_5) (Kd.N_typed (Nu HO_7)) (by decide) hg); have n1_ := o_ (hb); have n2_ := o_ (ho); clear HO_5; clear HB; clear HO_7; have HO_5 := n0_; have HB := n1_; have HO642 := n2_; clear n0_ n1_ n2_; clear ho hb hg hat))
         repeat (go_quiet (first | ((with_reducible refine gate_builtin (b := .append) (xs := #[.tmp 73, .tmp 75]) rfl ?_); (try (refine gate_guard (by rfl) ?_; dsimp only)); at_builtin; refine Kd.N_append k33 (w0 := w) w.heap.size rfl (.tmp 73) (.tmp 75) 23 33 (.agg #[(.int .i64 0), (.int .i64 0), (.int .i64 0), (.int .i64 0), (.string ⟨#[]⟩), (.string ⟨#[]⟩), (.slice none 0 0)]) 88 rfl Try.underlying23 info33 rfl (by decide) (by omega) u7 x7_3 (⟨5, 0, 0, 0, (⟨#[]⟩ : ByteArray), (⟨#[]⟩ : ByteArray), ([] : List Int)⟩ : S33) [.int .i64 5, .int .i64 0, .int .i64 0, .int .i64 0, .string ⟨#[]⟩, .string ⟨#[]⟩, .slice none 0 0] (fun k_ => (w.heap.size ≤ k_) ∧ some k_ ≠ (.slice (some ad639) x5_1.length co24 : Value).ownBlock) (fun k_ => ((fun k_ => (w.heap.size ≤ k_) ∧ some k_ ≠ (.slice (some ad639) x5_1.length co24 : Value).ownBlock)) k_ ∧ some k_ ≠ (u7 : Value).ownBlock) rfl rfl ?aP (fun _ hk => hk) ?aF ?aO ?aB ?aS ?aL ?_; (case aP => exact (k33_mkF _ _ (⟨5, 0, 0, 0, (⟨#[]⟩ : ByteArray), (⟨#[]⟩ : ByteArray), ([] : List Int)⟩ : S33) (Nat.le_refl _) (Kd.F_nil _ _ _))); (case aB => exact (bl HB)); (case aF => exact (fun k_ hk => ⟨(Nat.le_trans (below_size (bl HB)) hk), Kd.fresh' (Kd.R_lt (Ru HO_5)) k_ hk⟩)); (case aO => exact (Nu HO_7)); (case aS => exact (below_size (bl HB))); (case aL => have := LMc23.out; omega); intro v641 w25 ho hb hg hat; rw [← Ny640.out] at ho; have n0_ := o_ (Kd.R_over' (Ru HO_5) (Kd.N_typed (Nu HO_7)) (by decide) hg); have n1_ := o_ (hb); have n2_ := o_ (ho); clear HO_5; clear HB; clear HO_7; have HO_5 := n0_; have HB := n1_; have HO642 := n2_; clear n0_ n1_ n2_; clear ho hb hg hat)); try go_wp2_with (first | ((with_reducible refine gate_builtin (b := .append) (xs := #[.tmp 73, .tmp 75]) rfl ?_); (try (refine gate_guard (by rfl) ?_; dsimp only)); at_builtin; refine Kd.N_append k33 (w0 := w) w.heap.size rfl (.tmp 73) (.tmp 75) 23 33 (.agg #[(.int .i64 0), (.int .i64 0), (.int .i64 0), (.int .i64 0), (.string ⟨#[]⟩), (.string ⟨#[]⟩), (.slice none 0 0)]) 88 rfl Try.underlying23 info33 rfl (by decide) (by omega) u7 x7_3 (⟨5, 0, 0, 0, (⟨#[]⟩ : ByteArray), (⟨#[]⟩ : ByteArray), ([] : List Int)⟩ : S33) [.int .i64 5, .int .i64 0, .int .i64 0, .int .i64 0, .string ⟨#[]⟩, .string ⟨#[]⟩, .slice none 0 0] (fun k_ => (w.heap.size ≤ k_) ∧ some k_ ≠ (.slice (some ad639) x5_1.length co24 : Value).ownBlock) (fun k_ => ((fun k_ => (w.heap.size ≤ k_) ∧ some k_ ≠ (.slice (some ad639) x5_1.length co24 : Value).ownBlock)) k_ ∧ some k_ ≠ (u7 : Value).ownBlock) rfl rfl ?aP (fun _ hk => hk) ?aF ?aO ?aB ?aS ?aL ?_; (case aP => exact (k33_mkF _ _ (⟨5, 0, 0, 0, (⟨#[]⟩ : ByteArray), (⟨#[]⟩ : ByteArray), ([] : List Int)⟩ : S33) (Nat.le_refl _) (Kd.F_nil _ _ _))); (case aB => exact (bl HB)); (case aF => exact (fun k_ hk => ⟨(Nat.le_trans (below_size (bl HB)) hk), Kd.fresh' (Kd.R_lt (Ru HO_5)) k_ hk⟩)); (case aO => exact (Nu HO_7)); (case aS => exact (below_size (bl HB))); (case aL => have := LMc23.out; omega); intro v641 w25 ho hb hg hat; rw [← Ny640.out] at ho; have n0_ := o_ (Kd.R_over' (Ru HO_5) (Kd.N_typed (Nu HO_7)) (by decide) hg); have n1_ := o_ (hb); have n2_ := o_ (ho); clear HO_5; clear HB; clear HO_7; have HO_5 := n0_; have HB := n1_; have HO642 := n2_; clear n0_ n1_ n2_; clear ho hb hg hat)))
         go_roundg k3
         case measure => have := HK1.out; have := HK2.out; have := HK3.out; omega
         case rel => exact ⟨(y640), (wrap64 (x9_3 + 1)), (by first | rfl | simp [*]), H', ⟨by have := HK1.out; have := HK2.out; have := HK3.out; omega⟩, ⟨Ru HO_5⟩, ⟨Nu HO642⟩, ⟨bl HB⟩⟩
        rw [if_neg c20] at H
        have c20b0 := decide_eq_false c20
        clear c20
        by_cases c27 : 0 ≤ x8_2
        rotate_left
        ·rw [if_neg c27] at H
         exact absurd H (by simp)
        rw [if_pos c27] at H
        have c27b0 := eq_true c27
        have c27b1 := decide_eq_true c27
        clear c27
        by_cases c28 : x8_2 ≤ (wrap64 (x8_2 + 1))
        rotate_left
        ·rw [if_neg c28] at H
         exact absurd H (by simp)
        rw [if_pos c28] at H
        have c28b0 := eq_true c28
        have c28b1 := decide_eq_true c28
        by_cases c29 : (wrap64 (x8_2 + 1)) ≤ (l0.length : Int)
        rotate_left
        ·rw [if_neg c29] at H
         exact absurd H (by simp)
        rw [if_pos c29] at H
        have c29b0 := eq_true c29
        have c29b1 := decide_eq_true c29
        obtain ⟨y643, hy643⟩ : ∃ y_ : List (S33), y_ = ((l0.take ((wrap64 (x8_2 + 1)) : Int).toNat).drop (x8_2 : Int).toNat) := ⟨_, rfl⟩
        replace H : ((r_own.f k3 y643).bind fun t647 => (if x7_3.length + t647.length < 1599289640401 then (r_Points.l1 k3 l0 x5_1 (x7_3 ++ t647) (wrap64 (x8_2 + 1))) else (none))) = some r := by first | (rw [hy643]; with_reducible exact H) | (have H2_ := (Option.bind_some _ _).symm.trans H; rw [hy643]; with_reducible exact H2_) | (have H2_ := (Option.bind_some _ _).symm.trans H; with_reducible exact H2_) | with_reducible exact H | (rw [hy643]; exact H) | exact H
        have Ny643 := o_ hy643
        clear hy643
        obtain ⟨t647, A300, H⟩ := qb H
        try dsimp only at H
        have A30 := o_ A300
        clear A300
        by_cases c31 : x7_3.length + t647.length < 1599289640401
        rotate_left
        ·rw [if_neg c31] at H
         exact absurd H (by simp)
        rw [if_pos c31] at H
        have LMc31 := o_ c31
        clear c31
        obtain ⟨y650, hy650⟩ : ∃ y_ : List (S33), y_ = (x7_3 ++ t647) := ⟨_, rfl⟩
        replace H : (r_Points.l1 k3 l0 x5_1 y650 (wrap64 (x8_2 + 1))) = some r := by first | (rw [hy650]; with_reducible exact H) | (have H2_ := (Option.bind_some _ _).symm.trans H; rw [hy650]; with_reducible exact H2_) | (have H2_ := (Option.bind_some _ _).symm.trans H; with_reducible exact H2_) | with_reducible exact H | (rw [hy650]; exact H) | exact H
        have Ny650 := o_ hy650
        clear hy650
        have H' := o_ H
        clear H
        obtain ⟨Ao32, co32, eo32⟩ := Kd.R_slice HO_5.out
        subst eo32
        have q33 : ((wrap64 (x8_2 + 1)) : Int) ≤ ((l0.length : Int) : Int) := oa
        obtain ⟨i033, hi033, _, hsz33, _⟩ := info_parts info33
        have hroom33 : l0.length ≤ c0 := HC0.out
        have hC33 : Kd.C k33 _ A0 l0.length l0 := HR0.out
        have ql33 : (x8_2 : Int) ≤ ((wrap64 (x8_2 + 1)) : Int) := oa
        have q033 : (0 : Int) ≤ (x8_2 : Int) := oa
        have hcut33 := cut_mid (P := Try.prog) 23 33 .i64 .i64 Try.underlying23 hi033 7 hsz33 A0 l0.length c0 x8_2 (wrap64 (x8_2 + 1)) q033 ql33 q33 hroom33
        have hr33 := Kd.C_mid (lo := (x8_2 : Int).toNat) (hi := ((wrap64 (x8_2 + 1)) : Int).toNat) (c := c0) hC33 (by omega) (by omega) hroom33
        obtain ⟨A33, hA33⟩ : ∃ A1, A1 = (if c0 = (x8_2 : Int).toNat then A0 else (A0 : Option Addr).map (·.add ((x8_2 : Int).toNat * 7))) := ⟨_, rfl⟩
        obtain ⟨c33, hc33⟩ : ∃ c1, c1 = c0 - (x8_2 : Int).toNat := ⟨_, rfl⟩
        have hy33 : y643.length = ((wrap64 (x8_2 + 1)) : Int).toNat - (x8_2 : Int).toNat := (by rw [Ny643.out, List.length_drop, List.length_take] <;> omega)
        rw [show ((l0).take ((wrap64 (x8_2 + 1)) : Int).toNat).drop (x8_2 : Int).toNat = y643 from Ny643.out.symm] at hr33
        replace hr33 : Kd.C k33 _ A33 y643.length y643 := (by rw [hA33]; exact hr33)
        rw [← hy33, ← hA33, ← hc33] at hcut33
        have HR646 := o_ hr33
        have HC646 := o_ (show y643.length ≤ c33 from by rw [hy33, hc33]; exact Nat.sub_le_sub_right (Nat.le_trans (by omega) hroom33) _)
        clear hr33 hC33 hroom33 hi033 hsz33 hc33
        have KY33 := o_ hy33
        have KA33 := o_ hA33
        clear hy33 hA33
        replace q33 := eq_true q33
        go_wp2_with (first | (go_at_call 42; (with_reducible refine (r_own.calls k3 _ _ y643 t647 _ ?side1 ?side2 A30.out).mono ?_); (case side1 => exact Kd.C_below HR646.out (bl HB)); (case side2 => exact HC646.out); rintro e w34 ⟨v648, rfl, ho0, hb⟩; have n0_ := o_ (Kd.R_below (Ru HO_5) hb); have n1_ := o_ (Kd.N_elder' (Nu HO_7) (Kd.S_base ho0) hb); have n2_ := o_ (Kd.N_lower (Kd.N_mono (ok' := fun k_ => (w.heap.size ≤ k_) ∧ some k_ ≠ (.slice Ao32 x5_1.length co32 : Value).ownBlock ∧ some k_ ≠ (u7 : Value).ownBlock) (Kd.S_N (Kd.S_bound ho0)) (fun k_ hk_ => ⟨(Nat.le_trans (below_size (bl HB)) hk_.2.1), (Kd.fresh' (Kd.R_lt (Ru HO_5)) k_ hk_.2.1), (Kd.fresh' (Kd.N_lt (Nu HO_7)) k_ hk_.2.1)⟩)) (below_size (bl HB))); have n3_ := o_ (below_step (bl HB) hb); clear HO_5; clear HO_7; clear HB; have HO_5 := n0_; have HO_7 := n1_; have HO649 := n2_; have HB := n3_; clear n0_ n1_ n2_ n3_; (try clear hb); (try clear ho0); obtain ⟨Ao36, co36, eo36⟩ := Kd.N_slice HO649.out; subst eo36) | ((with_reducible refine gate_builtin (b := .append) (xs := #[.tmp 77, .tmp 83]) rfl ?_); (try (refine gate_guard (by rfl) ?_; dsimp only)); at_builtin; refine Kd.N_append_rows k33 (w0 := w) w.heap.size rfl (.tmp 77) (.tmp 83) 23 33 (.agg #[(.int .i64 0), (.int .i64 0), (.int .i64 0), (.int .i64 0), (.string ⟨#[]⟩), (.string ⟨#[]⟩), (.slice none 0 0)]) 88 rfl Try.underlying23 info33 rfl (by decide) (by omega) u7 x7_3 t647 _ _ _ (fun k_ => (w.heap.size ≤ k_) ∧ some k_ ≠ (.slice Ao32 x5_1.length co32 : Value).ownBlock) (fun k_ => ((fun k_ => (w.heap.size ≤ k_) ∧ some k_ ≠ (.slice Ao32 x5_1.length co32 : Value).ownBlock)) k_ ∧ some k_ ≠ (u7 : Value).ownBlock) rfl rfl ?aO ?aR (fun _ hk => hk) ?aF ?aB ?aS ?aL ?_; (case aR => exact (by skip; exact Kd.N_F (Kd.N_mono (ok' := (fun k_ => ((fun k_ => (w.heap.size ≤ k_) ∧ some k_ ≠ (.slice Ao32 x5_1.length co32 : Value).ownBlock)) k_ ∧ some k_ ≠ (u7 : Value).ownBlock)) (HO649.out) (fun k_ hk => ⟨⟨hk.1, hk.2.1⟩, hk.2.2⟩)))); (case aB => exact (bl HB)); (case aF => exact (fun k_ hk => ⟨(Nat.le_trans (below_size (bl HB)) hk), Kd.fresh' (Kd.R_lt (Ru HO_5)) k_ hk⟩)); (case aO => exact (by (with_reducible repeat (first | apply Kd.N_alloc | apply Kd.N_drewN | apply Kd.N_drew)); exact Kd.N_mono HO_7.out (fun _ hk => ⟨hk.1.1, hk.1.2⟩))); (case aS => exact (below_size (bl HB))); (case aL => have := LMc31.out; omega); intro v651 w35 ho hb hg hat; rw [← Ny650.out] at ho; have n0_ := o_ (Kd.R_over' (Ru HO_5) (Kd.N_typed (Nu HO_7)) (by decide) hg); have n1_ := o_ (Kd.N_afterv (ok := (fun k_ => (w.heap.size ≤ k_) ∧ some k_ ≠ (.slice Ao32 x5_1.length co32 : Value).ownBlock)) (by (with_reducible repeat (first | apply Kd.N_alloc | apply Kd.N_drewN | apply Kd.N_drew)); exact Kd.N_mono HO649.out (fun _ hk => ⟨⟨hk.1, hk.2.1⟩, hk.2.2⟩)) hg hat); have n2_ := o_ (hb); have n3_ := o_ (ho); clear HO_5; clear HO649; clear HB; clear HO_7; have HO_5 := n0_; have HO649 := n1_; have HB := n2_; have HO652 := n3_; clear n0_ n1_ n2_ n3_; clear ho hb hg hat))
        repeat (go_quiet (first | (go_at_call 42; (with_reducible refine (r_own.calls k3 _ _ y643 t647 _ ?side1 ?side2 A30.out).mono ?_); (case side1 => exact Kd.C_below HR646.out (bl HB)); (case side2 => exact HC646.out); rintro e w34 ⟨v648, rfl, ho0, hb⟩; have n0_ := o_ (Kd.R_below (Ru HO_5) hb); have n1_ := o_ (Kd.N_elder' (Nu HO_7) (Kd.S_base ho0) hb); have n2_ := o_ (Kd.N_lower (Kd.N_mono (ok' := fun k_ => (w.heap.size ≤ k_) ∧ some k_ ≠ (.slice Ao32 x5_1.length co32 : Value).ownBlock ∧ some k_ ≠ (u7 : Value).ownBlock) (Kd.S_N (Kd.S_bound ho0)) (fun k_ hk_ => ⟨(Nat.le_trans (below_size (bl HB)) hk_.2.1), (Kd.fresh' (Kd.R_lt (Ru HO_5)) k_ hk_.2.1), (Kd.fresh' (Kd.N_lt (Nu HO_7)) k_ hk_.2.1)⟩)) (below_size (bl HB))); have n3_ := o_ (below_step (bl HB) hb); clear HO_5; clear HO_7; clear HB; have HO_5 := n0_; have HO_7 := n1_; have HO649 := n2_; have HB := n3_; clear n0_ n1_ n2_ n3_; (try clear hb); (try clear ho0); obtain ⟨Ao36, co36, eo36⟩ := Kd.N_slice HO649.out; subst eo36) | ((with_reducible refine gate_builtin (b := .append) (xs := #[.tmp 77, .tmp 83]) rfl ?_); (try (refine gate_guard (by rfl) ?_; dsimp only)); at_builtin; refine Kd.N_append_rows k33 (w0 := w) w.heap.size rfl (.tmp 77) (.tmp 83) 23 33 (.agg #[(.int .i64 0), (.int .i64 0), (.int .i64 0), (.int .i64 0), (.string ⟨#[]⟩), (.string ⟨#[]⟩), (.slice none 0 0)]) 88 rfl Try.underlying23 info33 rfl (by decide) (by omega) u7 x7_3 t647 _ _ _ (fun k_ => (w.heap.size ≤ k_) ∧ some k_ ≠ (.slice Ao32 x5_1.length co32 : Value).ownBlock) (fun k_ => ((fun k_ => (w.heap.size ≤ k_) ∧ some k_ ≠ (.slice Ao32 x5_1.length co32 : Value).ownBlock)) k_ ∧ some k_ ≠ (u7 : Value).ownBlock) rfl rfl ?aO ?aR (fun _ hk => hk) ?aF ?aB ?aS ?aL ?_; (case aR => exact (by skip; exact Kd.N_F (Kd.N_mono (ok' := (fun k_ => ((fun k_ => (w.heap.size ≤ k_) ∧ some k_ ≠ (.slice Ao32 x5_1.length co32 : Value).ownBlock)) k_ ∧ some k_ ≠ (u7 : Value).ownBlock)) (HO649.out) (fun k_ hk => ⟨⟨hk.1, hk.2.1⟩, hk.2.2⟩)))); (case aB => exact (bl HB)); (case aF => exact (fun k_ hk => ⟨(Nat.le_trans (below_size (bl HB)) hk), Kd.fresh' (Kd.R_lt (Ru HO_5)) k_ hk⟩)); (case aO => exact (by (with_reducible repeat (first | apply Kd.N_alloc | apply Kd.N_drewN | apply Kd.N_drew)); exact Kd.N_mono HO_7.out (fun _ hk => ⟨hk.1.1, hk.1.2⟩))); (case aS => exact (below_size (bl HB))); (case aL => have := LMc31.out; omega); intro v651 w35 ho hb hg hat; rw [← Ny650.out] at ho; have n0_ := o_ (Kd.R_over' (Ru HO_5) (Kd.N_typed (Nu HO_7)) (by decide) hg); have n1_ := o_ (Kd.N_afterv (ok := (fun k_ => (w.heap.size ≤ k_) ∧ some k_ ≠ (.slice Ao32 x5_1.length co32 : Value).ownBlock)) (by (with_reducible repeat (first | apply Kd.N_alloc | apply Kd.N_drewN | apply Kd.N_drew)); exact Kd.N_mono HO649.out (fun _ hk => ⟨⟨hk.1, hk.2.1⟩, hk.2.2⟩)) hg hat); have n2_ := o_ (hb); have n3_ := o_ (ho); clear HO_5; clear HO649; clear HB; clear HO_7; have HO_5 := n0_; have HO649 := n1_; have HB := n2_; have HO652 := n3_; clear n0_ n1_ n2_ n3_; clear ho hb hg hat)); try go_wp2_with (first | (go_at_call 42; (with_reducible refine (r_own.calls k3 _ _ y643 t647 _ ?side1 ?side2 A30.out).mono ?_); (case side1 => exact Kd.C_below HR646.out (bl HB)); (case side2 => exact HC646.out); rintro e w34 ⟨v648, rfl, ho0, hb⟩; have n0_ := o_ (Kd.R_below (Ru HO_5) hb); have n1_ := o_ (Kd.N_elder' (Nu HO_7) (Kd.S_base ho0) hb); have n2_ := o_ (Kd.N_lower (Kd.N_mono (ok' := fun k_ => (w.heap.size ≤ k_) ∧ some k_ ≠ (.slice Ao32 x5_1.length co32 : Value).ownBlock ∧ some k_ ≠ (u7 : Value).ownBlock) (Kd.S_N (Kd.S_bound ho0)) (fun k_ hk_ => ⟨(Nat.le_trans (below_size (bl HB)) hk_.2.1), (Kd.fresh' (Kd.R_lt (Ru HO_5)) k_ hk_.2.1), (Kd.fresh' (Kd.N_lt (Nu HO_7)) k_ hk_.2.1)⟩)) (below_size (bl HB))); have n3_ := o_ (below_step (bl HB) hb); clear HO_5; clear HO_7; clear HB; have HO_5 := n0_; have HO_7 := n1_; have HO649 := n2_; have HB := n3_; clear n0_ n1_ n2_ n3_; (try clear hb); (try clear ho0); obtain ⟨Ao36, co36, eo36⟩ := Kd.N_slice HO649.out; subst eo36) | ((with_reducible refine gate_builtin (b := .append) (xs := #[.tmp 77, .tmp 83]) rfl ?_); (try (refine gate_guard (by rfl) ?_; dsimp only)); at_builtin; refine Kd.N_append_rows k33 (w0 := w) w.heap.size rfl (.tmp 77) (.tmp 83) 23 33 (.agg #[(.int .i64 0), (.int .i64 0), (.int .i64 0), (.int .i64 0), (.string ⟨#[]⟩), (.string ⟨#[]⟩), (.slice none 0 0)]) 88 rfl Try.underlying23 info33 rfl (by decide) (by omega) u7 x7_3 t647 _ _ _ (fun k_ => (w.heap.size ≤ k_) ∧ some k_ ≠ (.slice Ao32 x5_1.length co32 : Value).ownBlock) (fun k_ => ((fun k_ => (w.heap.size ≤ k_) ∧ some k_ ≠ (.slice Ao32 x5_1.length co32 : Value).ownBlock)) k_ ∧ some k_ ≠ (u7 : Value).ownBlock) rfl rfl ?aO ?aR (fun _ hk => hk) ?aF ?aB ?aS ?aL ?_; (case aR => exact (by skip; exact Kd.N_F (Kd.N_mono (ok' := (fun k_ => ((fun k_ => (w.heap.size ≤ k_) ∧ some k_ ≠ (.slice Ao32 x5_1.length co32 : Value).ownBlock)) k_ ∧ some k_ ≠ (u7 : Value).ownBlock)) (HO649.out) (fun k_ hk => ⟨⟨hk.1, hk.2.1⟩, hk.2.2⟩)))); (case aB => exact (bl HB)); (case aF => exact (fun k_ hk => ⟨(Nat.le_trans (below_size (bl HB)) hk), Kd.fresh' (Kd.R_lt (Ru HO_5)) k_ hk⟩)); (case aO => exact (by (with_reducible repeat (first | apply Kd.N_alloc | apply Kd.N_drewN | apply Kd.N_drew)); exact Kd.N_mono HO_7.out (fun _ hk => ⟨hk.1.1, hk.1.2⟩))); (case aS => exact (below_size (bl HB))); (case aL => have := LMc31.out; omega); intro v651 w35 ho hb hg hat; rw [← Ny650.out] at ho; have n0_ := o_ (Kd.R_over' (Ru HO_5) (Kd.N_typed (Nu HO_7)) (by decide) hg); have n1_ := o_ (Kd.N_afterv (ok := (fun k_ => (w.heap.size ≤ k_) ∧ some k_ ≠ (.slice Ao32 x5_1.length co32 : Value).ownBlock)) (by (with_reducible repeat (first | apply Kd.N_alloc | apply Kd.N_drewN | apply Kd.N_drew)); exact Kd.N_mono HO649.out (fun _ hk => ⟨⟨hk.1, hk.2.1⟩, hk.2.2⟩)) hg hat); have n2_ := o_ (hb); have n3_ := o_ (ho); clear HO_5; clear HO649; clear HB; clear HO_7; have HO_5 := n0_; have HO649 := n1_; have HB := n2_; have HO652 := n3_; clear n0_ n1_ n2_ n3_; clear ho hb hg hat)))
        go_roundg k3
        case measure => have := HK1.out; have := HK2.out; have := HK3.out; omega
        case rel => exact ⟨(y650), (wrap64 (x8_2 + 1)), (by first | rfl | simp [*]), H', ⟨by have := HK1.out; have := HK2.out; have := HK3.out; omega⟩, ⟨Ru HO_5⟩, ⟨Nu HO652⟩, ⟨bl HB⟩⟩
   rw [if_pos c3] at H
   have c3b0 := decide_eq_true c3
   clear c3
   by_cases c4 : 0 ≤ x6_1
   rotate_left
   ·rw [if_neg c4] at H
    exact absurd H (by simp)
   rw [if_pos c4] at H
   have c4b0 := decide_eq_true c4
   clear c4
   by_cases c5 : (rd l1 x6_1) ≥ 0
   rotate_left
   ·rw [if_neg c5] at H
    have c5b0 : decide (0 ≤ (rd l1 x6_1)) = false := decide_eq_false c5
    clear c5
    have H' := o_ H
    clear H
    have p627 : 0 ≤ (x6_1 : Int) := oa
    have q627 : x6_1 < (l1.length : Int) := oa
    obtain ⟨ad627, e627, hx627_0⟩ := Kd.at_int HR1.out x6_1 p627 q627
    cases e627
    replace hx627_0 := ct HB hx627_0
    replace p627 := eq_true p627
    replace q627 := eq_true q627
    go_wp2
    repeat (go_quiet (fail); try go_wp2)
    go_roundg k1
    case measure => have := HK1.out; omega
    case rel => exact ⟨(x5_1), (wrap64 (x6_1 + 1)), (by first | rfl | simp [*]), H', ⟨by have := HK1.out; omega⟩, ⟨Ru HO_5⟩, ⟨bl HB⟩⟩
   rw [if_pos c5] at H
   have c5b0 : decide (0 ≤ (rd l1 x6_1)) = true := decide_eq_true c5
   clear c5
   by_cases c6 : (rd l1 x6_1) < (l0.length : Int)
   rotate_left
   ·rw [if_neg c6] at H
    have c6b0 := decide_eq_false c6
    clear c6
    have H' := o_ H
    clear H
    have p627 : 0 ≤ (x6_1 : Int) := oa
    have q627 : x6_1 < (l1.length : Int) := oa
    obtain ⟨ad627, e627, hx627_0⟩ := Kd.at_int HR1.out x6_1 p627 q627
    cases e627
    replace hx627_0 := ct HB hx627_0
    replace p627 := eq_true p627
    replace q627 := eq_true q627
    have p628 : 0 ≤ (x6_1 : Int) := oa
    have q628 : x6_1 < (l1.length : Int) := oa
    obtain ⟨ad628, e628, hx628_0⟩ := Kd.at_int HR1.out x6_1 p628 q628
    obtain rfl : ad627 = ad628 := (by injection e628)
    replace hx628_0 := ct HB hx628_0
    replace p628 := eq_true p628
    replace q628 := eq_true q628
    go_wp2
    repeat (go_quiet (fail); try go_wp2)
    go_roundg k1
    case measure => have := HK1.out; omega
    case rel => exact ⟨(x5_1), (wrap64 (x6_1 + 1)), (by first | rfl | simp [*]), H', ⟨by have := HK1.out; omega⟩, ⟨Ru HO_5⟩, ⟨bl HB⟩⟩
   rw [if_pos c6] at H
   have c6b0 := decide_eq_true c6
   clear c6
   by_cases c7 : (x5_1.length : Int) = 0
   ·rw [if_pos c7] at H
    have c7b0 : ((x5_1.length : Int) == 0) = true := beq_iff_eq.mpr c7
    have c7b1 : ((x5_1.length : Int) != 0) = false := bne_eq_false_iff_eq.mpr c7
    clear c7
    by_cases c8 : x5_1.length < 17592186044416
    rotate_left
    ·rw [if_neg c8] at H
     exact absurd H (by simp)
    rw [if_pos c8] at H
    have LMc8 := o_ c8
    clear c8
    obtain ⟨y630, hy630⟩ : ∃ y_ : List Int, y_ = (x5_1 ++ [rd l1 x6_1]) := ⟨_, rfl⟩
    replace H : (r_Points.l0 k1 l0 l1 y630 (wrap64 (x6_1 + 1))) = some r := by first | (rw [hy630]; with_reducible exact H) | (have H2_ := (Option.bind_some _ _).symm.trans H; rw [hy630]; with_reducible exact H2_) | (have H2_ := (Option.bind_some _ _).symm.trans H; with_reducible exact H2_) | with_reducible exact H | (rw [hy630]; exact H) | exact H
    have Ny630 := o_ hy630
    clear hy630
    have H' := o_ H
    clear H
    have p627 : 0 ≤ (x6_1 : Int) := oa
    have q627 : x6_1 < (l1.length : Int) := oa
    obtain ⟨ad627, e627, hx627_0⟩ := Kd.at_int HR1.out x6_1 p627 q627
    cases e627
    replace hx627_0 := ct HB hx627_0
    replace p627 := eq_true p627
    replace q627 := eq_true q627
    have p628 : 0 ≤ (x6_1 : Int) := oa
    have q628 : x6_1 < (l1.length : Int) := oa
    obtain ⟨ad628, e628, hx628_0⟩ := Kd.at_int HR1.out x6_1 p628 q628
    obtain rfl : ad627 = ad628 := (by injection e628)
    replace hx628_0 := ct HB hx628_0
    replace p628 := eq_true p628
    replace q628 := eq_true q628
    obtain ⟨Ao9, co9, eo9⟩ := Kd.R_slice HO_5.out
    subst eo9
    have p629 : 0 ≤ (x6_1 : Int) := oa
    have q629 : x6_1 < (l1.length : Int) := oa
    obtain ⟨ad629, e629, hx629_0⟩ := Kd.at_int HR1.out x6_1 p629 q629
    obtain rfl : ad627 = ad629 := (by injection e629)
    replace hx629_0 := ct HB hx629_0
    replace p629 := eq_true p629
    replace q629 := eq_true q629
    go_wp2_with (first | ((with_reducible refine gate_builtin (b := .append) (xs := #[.tmp 48, .tmp 53]) rfl ?_); (try (refine gate_guard (by rfl) ?_; dsimp only)); at_builtin; refine Kd.R_append (Kd.int .i64) (w0 := w) w.heap.size rfl (.tmp 48) (.tmp 53) 22 3 (.int .i64 0) 8 rfl Try.underlying22 info3 rfl (by decide) (by omega) (.slice Ao9 x5_1.length co9) x5_1 (rd l1 x6_1) [.int .i64 (rd l1 x6_1)] (fun k_ => (w.heap.size ≤ k_)) (fun _ => False) rfl rfl ?aP (fun _ hk => hk.elim) ?aF ?aO ?aB ?aS ?aL ?_; (case aP => exact rfl); (case aB => exact (bl HB)); (case aF => exact (fun k_ hk => (Nat.le_trans (below_size (bl HB)) hk))); (case aO => exact (Ru HO_5)); (case aS => exact (below_size (bl HB))); (case aL => have := LMc8.out; omega); intro v631 w10 ho hb hg hat; rw [← Ny630.out] at ho; have n0_ := o_ (hb); have n1_ := o_ (ho); clear HB; clear HO_5; have HB := n0_; have HO632 := n1_; clear n0_ n1_; clear ho hb hg hat))
    repeat (go_quiet (first | ((with_reducible refine gate_builtin (b := .append) (xs := #[.tmp 48, .tmp 53]) rfl ?_); (try (refine gate_guard (by rfl) ?_; dsimp only)); at_builtin; refine Kd.R_append (Kd.int .i64) (w0 := w) w.heap.size rfl (.tmp 48) (.tmp 53) 22 3 (.int .i64 0) 8 rfl Try.underlying22 info3 rfl (by decide) (by omega) (.slice Ao9 x5_1.length co9) x5_1 (rd l1 x6_1) [.int .i64 (rd l1 x6_1)] (fun k_ => (w.heap.size ≤ k_)) (fun _ => False) rfl rfl ?aP (fun _ hk => hk.elim) ?aF ?aO ?aB ?aS ?aL ?_; (case aP => exact rfl); (case aB => exact (bl HB)); (case aF => exact (fun k_ hk => (Nat.le_trans (below_size (bl HB)) hk))); (case aO => exact (Ru HO_5)); (case aS => exact (below_size (bl HB))); (case aL => have := LMc8.out; omega); intro v631 w10 ho hb hg hat; rw [← Ny630.out] at ho; have n0_ := o_ (hb); have n1_ := o_ (ho); clear HB; clear HO_5; have HB := n0_; have HO632 := n1_; clear n0_ n1_; clear ho hb hg hat)); try go_wp2_with (first | ((with_reducible refine gate_builtin (b := .append) (xs := #[.tmp 48, .tmp 53]) rfl ?_); (try (refine gate_guard (by rfl) ?_; dsimp only)); at_builtin; refine Kd.R_append (Kd.int .i64) (w0 := w) w.heap.size rfl (.tmp 48) (.tmp 53) 22 3 (.int .i64 0) 8 rfl Try.underlying22 info3 rfl (by decide) (by omega) (.slice Ao9 x5_1.length co9) x5_1 (rd l1 x6_1) [.int .i64 (rd l1 x6_1)] (fun k_ => (w.heap.size ≤ k_)) (fun _ => False) rfl rfl ?aP (fun _ hk => hk.elim) ?aF ?aO ?aB ?aS ?aL ?_; (case aP => exact rfl); (case aB => exact (bl HB)); (case aF => exact (fun k_ hk => (Nat.le_trans (below_size (bl HB)) hk))); (case aO => exact (Ru HO_5)); (case aS => exact (below_size (bl HB))); (case aL => have := LMc8.out; omega); intro v631 w10 ho hb hg hat; rw [← Ny630.out] at ho; have n0_ := o_ (hb); have n1_ := o_ (ho); clear HB; clear HO_5; have HB := n0_; have HO632 := n1_; clear n0_ n1_; clear ho hb hg hat)))
    go_roundg k1
    case measure => have := HK1.out; omega
    case rel => exact ⟨(y630), (wrap64 (x6_1 + 1)), (by first | rfl | simp [*]), H', ⟨by have := HK1.out; omega⟩, ⟨Ru HO632⟩, ⟨bl HB⟩⟩
   rw [if_neg c7] at H
   have c7b0 : ((x5_1.length : Int) == 0) = false := beq_eq_false_iff_ne.mpr c7
   have c7b1 : ((x5_1.length : Int) != 0) = true := bne_iff_ne.mpr c7
   have c7b2 : ¬ (x5_1 = []) := fun h_ => c7 (by rw [h_]; rfl)
   obtain ⟨ji11, hji11⟩ : ∃ j_ : Int, (wrap64 ((x5_1.length : Int) - 1)) = j_ := ⟨_, rfl⟩
   replace H : (if 0 ≤ (ji11) then (if (ji11) < (x5_1.length : Int) then (if (rd l1 x6_1) > (rd x5_1 (ji11)) then (if x5_1.length < 17592186044416 then (r_Points.l0 k1 l0 l1 (x5_1 ++ [rd l1 x6_1]) (wrap64 (x6_1 + 1))) else (none)) else (r_Points.l0 k1 l0 l1 x5_1 (wrap64 (x6_1 + 1)))) else (none)) else (none)) = some r := by first | (rw [hji11] at H; exact H) | (simp only [hji11] at H ⊢; exact H)
   have hji11w : (IntKind.i64.wrap ((x5_1.length : Int) - 1)) = ji11 := (i64_w _).trans hji11
   by_cases c12 : 0 ≤ (ji11)
   rotate_left
   ·rw [if_neg c12] at H
    exact absurd H (by simp)
   rw [if_pos c12] at H
   have c12b0 := decide_eq_true c12
   clear c12
   by_cases c13 : (ji11) < (x5_1.length : Int)
   rotate_left
   ·rw [if_neg c13] at H
    exact absurd H (by simp)
   rw [if_pos c13] at H
   have c13b0 := decide_eq_true c13
   clear c13
   by_cases c14 : (rd l1 x6_1) > (rd x5_1 (ji11))
   rotate_left
   ·rw [if_neg c14] at H
    have c14b0 : decide ((rd x5_1 (ji11)) < (rd l1 x6_1)) = false := decide_eq_false c14
    clear c14
    have H' := o_ H
    clear H
    have p627 : 0 ≤ (x6_1 : Int) := oa
    have q627 : x6_1 < (l1.length : Int) := oa
    obtain ⟨ad627, e627, hx627_0⟩ := Kd.at_int HR1.out x6_1 p627 q627
    cases e627
    replace hx627_0 := ct HB hx627_0
    replace p627 := eq_true p627
    replace q627 := eq_true q627
    have p628 : 0 ≤ (x6_1 : Int) := oa
    have q628 : x6_1 < (l1.length : Int) := oa
    obtain ⟨ad628, e628, hx628_0⟩ := Kd.at_int HR1.out x6_1 p628 q628
    obtain rfl : ad627 = ad628 := (by injection e628)
    replace hx628_0 := ct HB hx628_0
    replace p628 := eq_true p628
    replace q628 := eq_true q628
    obtain ⟨Ao18, co18, eo18⟩ := Kd.R_slice HO_5.out
    subst eo18
    have p633 : 0 ≤ (x6_1 : Int) := oa
    have q633 : x6_1 < (l1.length : Int) := oa
    obtain ⟨ad633, e633, hx633_0⟩ := Kd.at_int HR1.out x6_1 p633 q633
    obtain rfl : ad627 = ad633 := (by injection e633)
    replace hx633_0 := ct HB hx633_0
    replace p633 := eq_true p633
    replace q633 := eq_true q633
    have p634 : 0 ≤ ((ji11) : Int) := oa
    have q634 : (ji11) < (x5_1.length : Int) := oa
    obtain ⟨ad634, e634, hx634_0⟩ := Kd.at_int (Kd.R_reads' HO_5.out).2.2 (ji11) p634 q634
    cases e634
    replace p634 := eq_true p634
    replace q634 := eq_true q634
    go_wp2
    repeat (go_quiet (fail); try go_wp2)
    go_roundg k1
    case measure => have := HK1.out; omega
    case rel => exact ⟨(x5_1), (wrap64 (x6_1 + 1)), (by first | rfl | simp [*]), H', ⟨by have := HK1.out; omega⟩, ⟨Ru HO_5⟩, ⟨bl HB⟩⟩
   rw [if_pos c14] at H
   have c14b0 : decide ((rd x5_1 (ji11)) < (rd l1 x6_1)) = true := decide_eq_true c14
   clear c14
   by_cases c15 : x5_1.length < 17592186044416
   rotate_left
   ·rw [if_neg c15] at H
    exact absurd H (by simp)
   rw [if_pos c15] at H
   have LMc15 := o_ c15
   clear c15
   obtain ⟨y636, hy636⟩ : ∃ y_ : List Int, y_ = (x5_1 ++ [rd l1 x6_1]) := ⟨_, rfl⟩
   replace H : (r_Points.l0 k1 l0 l1 y636 (wrap64 (x6_1 + 1))) = some r := by first | (rw [hy636]; with_reducible exact H) | (have H2_ := (Option.bind_some _ _).symm.trans H; rw [hy636]; with_reducible exact H2_) | (have H2_ := (Option.bind_some _ _).symm.trans H; with_reducible exact H2_) | with_reducible exact H | (rw [hy636]; exact H) | exact H
   have Ny636 := o_ hy636
   clear hy636
   have H' := o_ H
   clear H
   have p627 : 0 ≤ (x6_1 : Int) := oa
   have q627 : x6_1 < (l1.length : Int) := oa
   obtain ⟨ad627, e627, hx627_0⟩ := Kd.at_int HR1.out x6_1 p627 q627
   cases e627
   replace hx627_0 := ct HB hx627_0
   replace p627 := eq_true p627
   replace q627 := eq_true q627
   have p628 : 0 ≤ (x6_1 : Int) := oa
   have q628 : x6_1 < (l1.length : Int) := oa
   obtain ⟨ad628, e628, hx628_0⟩ := Kd.at_int HR1.out x6_1 p628 q628
   obtain rfl : ad627 = ad628 := (by injection e628)
   replace hx628_0 := ct HB hx628_0
   replace p628 := eq_true p628
   replace q628 := eq_true q628
   obtain ⟨Ao16, co16, eo16⟩ := Kd.R_slice HO_5.out
   subst eo16
   have p633 : 0 ≤ (x6_1 : Int) := oa
   have q633 : x6_1 < (l1.length : Int) := oa
   obtain ⟨ad633, e633, hx633_0⟩ := Kd.at_int HR1.out x6_1 p633 q633
   obtain rfl : ad627 = ad633 := (by injection e633)
   replace hx633_0 := ct HB hx633_0
   replace p633 := eq_true p633
   replace q633 := eq_true q633
   have p634 : 0 ≤ ((ji11) : Int) := oa
   have q634 : (ji11) < (x5_1.length : Int) := oa
   obtain ⟨ad634, e634, hx634_0⟩ := Kd.at_int (Kd.R_reads' HO_5.out).2.2 (ji11) p634 q634
   cases e634
   replace p634 := eq_true p634
   replace q634 := eq_true q634
   have p635 : 0 ≤ (x6_1 : Int) := oa
   have q635 : x6_1 < (l1.length : Int) := oa
   obtain ⟨ad635, e635, hx635_0⟩ := Kd.at_int HR1.out x6_1 p635 q635
   obtain rfl : ad627 = ad635 := (by injection e635)
   replace hx635_0 := ct HB hx635_0
   replace p635 := eq_true p635
   replace q635 := eq_true q635
   go_wp2_with (first | ((with_reducible refine gate_builtin (b := .append) (xs := #[.tmp 48, .tmp 53]) rfl ?_); (try (refine gate_guard (by rfl) ?_; dsimp only)); at_builtin; refine Kd.R_append (Kd.int .i64) (w0 := w) w.heap.size rfl (.tmp 48) (.tmp 53) 22 3 (.int .i64 0) 8 rfl Try.underlying22 info3 rfl (by decide) (by omega) (.slice (some ad634) x5_1.length co16) x5_1 (rd l1 x6_1) [.int .i64 (rd l1 x6_1)] (fun k_ => (w.heap.size ≤ k_)) (fun _ => False) rfl rfl ?aP (fun _ hk => hk.elim) ?aF ?aO ?aB ?aS ?aL ?_; (case aP => exact rfl); (case aB => exact (bl HB)); (case aF => exact (fun k_ hk => (Nat.le_trans (below_size (bl HB)) hk))); (case aO => exact (Ru HO_5)); (case aS => exact (below_size (bl HB))); (case aL => have := LMc15.out; omega); intro v637 w17 ho hb hg hat; rw [← Ny636.out] at ho; have n0_ := o_ (hb); have n1_ := o_ (ho); clear HB; clear HO_5; have HB := n0_; have HO638 := n1_; clear n0_ n1_; clear ho hb hg hat))
   repeat (go_quiet (first | ((with_reducible refine gate_builtin (b := .append) (xs := #[.tmp 48, .tmp 53]) rfl ?_); (try (refine gate_guard (by rfl) ?_; dsimp only)); at_builtin; refine Kd.R_append (Kd.int .i64) (w0 := w) w.heap.size rfl (.tmp 48) (.tmp 53) 22 3 (.int .i64 0) 8 rfl Try.underlying22 info3 rfl (by decide) (by omega) (.slice (some ad634) x5_1.length co16) x5_1 (rd l1 x6_1) [.int .i64 (rd l1 x6_1)] (fun k_ => (w.heap.size ≤ k_)) (fun _ => False) rfl rfl ?aP (fun _ hk => hk.elim) ?aF ?aO ?aB ?aS ?aL ?_; (case aP => exact rfl); (case aB => exact (bl HB)); (case aF => exact (fun k_ hk => (Nat.le_trans (below_size (bl HB)) hk))); (case aO => exact (Ru HO_5)); (case aS => exact (below_size (bl HB))); (case aL => have := LMc15.out; omega); intro v637 w17 ho hb hg hat; rw [← Ny636.out] at ho; have n0_ := o_ (hb); have n1_ := o_ (ho); clear HB; clear HO_5; have HB := n0_; have HO638 := n1_; clear n0_ n1_; clear ho hb hg hat)); try go_wp2_with (first | ((with_reducible refine gate_builtin (b := .append) (xs := #[.tmp 48, .tmp 53]) rfl ?_); (try (refine gate_guard (by rfl) ?_; dsimp only)); at_builtin; refine Kd.R_append (Kd.int .i64) (w0 := w) w.heap.size rfl (.tmp 48) (.tmp 53) 22 3 (.int .i64 0) 8 rfl Try.underlying22 info3 rfl (by decide) (by omega) (.slice (some ad634) x5_1.length co16) x5_1 (rd l1 x6_1) [.int .i64 (rd l1 x6_1)] (fun k_ => (w.heap.size ≤ k_)) (fun _ => False) rfl rfl ?aP (fun _ hk => hk.elim) ?aF ?aO ?aB ?aS ?aL ?_; (case aP => exact rfl); (case aB => exact (bl HB)); (case aF => exact (fun k_ hk => (Nat.le_trans (below_size (bl HB)) hk))); (case aO => exact (Ru HO_5)); (case aS => exact (below_size (bl HB))); (case aL => have := LMc15.out; omega); intro v637 w17 ho hb hg hat; rw [← Ny636.out] at ho; have n0_ := o_ (hb); have n1_ := o_ (ho); clear HB; clear HO_5; have HB := n0_; have HO638 := n1_; clear n0_ n1_; clear ho hb hg hat)))
   go_roundg k1
   case measure => have := HK1.out; omega
   case rel => exact ⟨(y636), (wrap64 (x6_1 + 1)), (by first | rfl | simp [*]), H', ⟨by have := HK1.out; omega⟩, ⟨Ru HO638⟩, ⟨bl HB⟩⟩
end Go.Proofs.Yteadghhmoggjnaa.Q
end
