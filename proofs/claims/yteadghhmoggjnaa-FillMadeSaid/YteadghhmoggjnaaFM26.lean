import Derived.Test.YteadghhmoggjnaaFM14
set_option linter.unusedVariables false
set_option linter.unusedSimpArgs false
section
namespace Go.Proofs.Yteadghhmoggjnaa.Q
open Go.RowKit YteadghhmoggjnaaW.PrintWords YteadghhmoggjnaaW.PrintLast YteadghhmoggjnaaW.PrintMore
attribute [local go_sem] max2_int max_two
set_option maxHeartbeats 8000000
set_option maxRecDepth 100000
def fill_Points.l0 : Nat → List (S33) → List (S33) → Int → Int → List Int → Int → Int → Option ((List (S33)))
 | 0, _, _, _, _, _, _, _ => none
 | k + 1, x0, x5, x6, x7, x10, x11, x12 => if x12 < x11 then (if 0 ≤ x12 then (if x12 < (x10.length : Int) then (if (rd x10 x12) ≤ x6 then (fill_Points.l0 k x0 x5 x6 x7 x10 x11 (wrap64 (x12 + 1))) else (if (rd x10 x12) ≥ (x0.length : Int) then (fill_Points.l0 k x0 x5 x6 x7 x10 x11 (wrap64 (x12 + 1))) else (if 0 ≤ x7 then (if x7 ≤ (rd x10 x12) then (if (rd x10 x12) ≤ (x0.length : Int) then ((some ((x0.take ((rd x10 x12) : Int).toNat).drop (x7 : Int).toNat : List (S33))).bind fun y605 => (if x5.length + y605.length < 1599289640401 then ((some (x5 ++ y605 : List (S33))).bind fun y610 => (if y610.length < 1599289640401 then (fill_Points.l0 k x0 (y610 ++ [(⟨5, 0, 0, 0, (⟨#[]⟩ : ByteArray), (⟨#[]⟩ : ByteArray), ([] : List Int)⟩ : S33)]) (rd x10 x12) (rd x10 x12) x10 x11 (wrap64 (x12 + 1))) else (none))) else (none))) else (none)) else (none)) else (none)))) else (none)) else (none)) else (if 0 ≤ x7 then (if x7 ≤ (x0.length : Int) then ((some (x0.drop (x7 : Int).toNat : List (S33))).bind fun y616 => (if x5.length + y616.length < 1599289640401 then ((fill_own.f (x5 ++ y616)).bind fun t624 => (some t624)) else (none))) else (none)) else (none))
def fill_Points.f (k : Nat) (l0 : List (S33)) (l1 : List Int) : Option ((List (S33))) := fill_Points.l0 k l0 ([] : List (S33)) (-1) 0 l1 (l1.length : Int) 0
theorem fill_Points.calls (k : Nat) (P0_ : Nat → Prop) (A0 : Option Addr) (c0 : Nat) (l0 : List (S33)) (A1 : Option Addr) (c1 : Nat) (l1 : List Int) (r : List (S33)) (w : World) (hs0 : Kd.V k33 33 w w.heap.size (fun k_ => P0_ k_) (.slice A0 l0.length c0) l0) (hr1 : Kd.C (Kd.int .i64) w A1 l1.length l1) (hc1 : l1.length ≤ c1) (h : fill_Points.f k l0 l1 = some r) :
  Calls Try.prog 51 #[.slice A0 l0.length c0, .slice A1 l1.length c1] w fun e w' => ∃ v0_ : Value, e = .returned (v0_) ∧ Kd.N k33 33 w' w.heap.size (fun k_ => (P0_ k_ ∨ w.heap.size ≤ k_)) v0_ r ∧ Below w.heap.size w w' := by
 have hu33 := Try.underlying33
 have HO0 := o_ (show Kd.V k33 33 w w.heap.size (fun k_ => (P0_ k_ ∨ w.heap.size ≤ k_)) (.slice A0 l0.length c0) l0 from Kd.V_mono hs0 (fun k_ hk => .inl hk))
 have HR1 := o_ hr1
 have HC1 := o_ hc1
 clear hr1 hc1
 have HB := o_ (Below.refl w.heap.size w)
 have H : (fill_Points.l0 k l0 ([] : List (S33)) (-1) 0 l1 (l1.length : Int) 0) = some r := h
 clear h
 have H' := o_ H
 clear H
 go_enter Try.func51, Try.ntmps51
 go_wp2
 go_loopg [5, 6, 7, 12] k (fun kq v5 v6 v7 v12 w' => ∃ (x5_1 : List (S33)) (x6_1 : Int) (x7_1 : Int) (x12_1 : Int), v6 = .int .i64 x6_1 ∧ v7 = .int .i64 x7_1 ∧ v12 = .int .i64 x12_1 ∧ As (fill_Points.l0 kq l0 x5_1 x6_1 x7_1 l1 (l1.length : Int) x12_1 = some r) ∧ As (kq ≤ k) ∧ As (Kd.V k33 33 w' w.heap.size (fun k_ => (P0_ k_ ∨ w.heap.size ≤ k_) ∧ some k_ ≠ (v5 : Value).ownBlock) (.slice A0 l0.length c0) l0) ∧ As (Kd.N k33 33 w' w.heap.size (fun k_ => (P0_ k_ ∨ w.heap.size ≤ k_)) v5 x5_1) ∧ As (Below w.heap.size w w'))
 case atStart => exact ⟨(([] : List (S33))), ((-1)), (0), (0), (by first | rfl | simp [*]), (by first | rfl | simp [*]), (by first | rfl | simp [*]), H', ⟨Nat.le_refl _⟩, ⟨by (with_reducible repeat (first | apply Kd.V_alloc | apply Kd.V_drewN | apply Kd.V_drew)); exact Kd.V_mono HO0.out (fun _ hk => ⟨hk, (by simp [Value.ownBlock])⟩)⟩, ⟨by first | exact Kd.S_nil _ _ _ _ _ | exact Kd.N_nil _ _ _ _ _ | exact Kd.V_nil _ _ _ _ _ | exact Kd.Q_nil _ _ _ _ _ | exact Kd.R_nil _ _ _ _ _⟩, ⟨bl HB⟩⟩
 case round =>
  clear H'
  obtain ⟨x5_1, x6_1, x7_1, x12_1, rfl, rfl, rfl, HA, HK1, HO_0, HO_5, HB⟩ := hrel
  cases gk with
  | zero => exact absurd HA.out (by simp [fill_Points.l0])
  | succ k1 =>
   have H := HA.out
   clear HA
   simp only [fill_Points.l0] at H
   by_cases c3 : x12_1 < (l1.length : Int)
   rotate_left
   ·rw [if_neg c3] at H
    have c3b0 := decide_eq_false c3
    clear c3
    by_cases c16 : 0 ≤ x7_1
    rotate_left
    ·rw [if_neg c16] at H
     exact absurd H (by simp)
    rw [if_pos c16] at H
    have c16b0 := eq_true c16
    have c16b1 := decide_eq_true c16
    clear c16
    by_cases c17 : x7_1 ≤ (l0.length : Int)
    rotate_left
    ·rw [if_neg c17] at H
     exact absurd H (by simp)
    rw [if_pos c17] at H
    have c17b0 := eq_true c17
    have c17b1 := decide_eq_true c17
    clear c17
    obtain ⟨y616, hy616⟩ : ∃ y_ : List (S33), y_ = (l0.drop (x7_1 : Int).toNat) := ⟨_, rfl⟩
    replace H : (if x5_1.length + y616.length < 1599289640401 then ((fill_own.f (x5_1 ++ y616)).bind fun t624 => (some t624)) else (none)) = some r := by first | (rw [hy616]; with_reducible exact H) | (have H2_ := (Option.bind_some _ _).symm.trans H; rw [hy616]; with_reducible exact H2_) | (have H2_ := (Option.bind_some _ _).symm.trans H; with_reducible exact H2_) | with_reducible exact H | (rw [hy616]; exact H) | exact H
    have Ny616 := o_ hy616
    clear hy616
    by_cases c18 : x5_1.length + y616.length < 1599289640401
    rotate_left
    ·rw [if_neg c18] at H
     exact absurd H (by simp)
    rw [if_pos c18] at H
    have LMc18 := o_ c18
    clear c18
    obtain ⟨y621, hy621⟩ : ∃ y_ : List (S33), y_ = (x5_1 ++ y616) := ⟨_, rfl⟩
    replace H : ((fill_own.f y621).bind fun t624 => (some t624)) = some r := by first | (rw [hy621]; with_reducible exact H) | (have H2_ := (Option.bind_some _ _).symm.trans H; rw [hy621]; with_reducible exact H2_) | (have H2_ := (Option.bind_some _ _).symm.trans H; with_reducible exact H2_) | with_reducible exact H | (rw [hy621]; exact H) | exact H
    have Ny621 := o_ hy621
    clear hy621
    obtain ⟨t624, A190, H⟩ := qb H
    try dsimp only at H
    have A19 := o_ A190
    clear A190
    obtain rfl := Option.some.inj H
    have q20 : (x7_1 : Int) ≤ ((l0.length : Int) : Int) := oa
    obtain ⟨i020, hi020, _, hsz20, _⟩ := info_parts info33
    have hroom20 : l0.length ≤ c0 := (Kd.V_reads' HO_0.out).2.1
    have hC20 : Kd.F k33 _ _ A0 l0.length l0 := (Kd.V_at (base := w.heap.size) HO_0.out).2.2
    have q020 : (0 : Int) ≤ (x7_1 : Int) := oa
    have hcut20 := cut_from (P := Try.prog) 23 33 .i64 Try.underlying23 hi020 7 hsz20 A0 l0.length c0 x7_1 q020 q20
    have hr20 := Kd.F_cut (m := (x7_1 : Int).toNat) (c := c0) hC20 (by omega) hroom20
    obtain ⟨A20, hA20⟩ : ∃ A1, A1 = (if c0 = (x7_1 : Int).toNat then A0 else (A0 : Option Addr).map (·.add ((x7_1 : Int).toNat * 7))) := ⟨_, rfl⟩
    obtain ⟨c20, hc20⟩ : ∃ c1, c1 = c0 - (x7_1 : Int).toNat := ⟨_, rfl⟩
    have hy20 : y616.length = l0.length - (x7_1 : Int).toNat := (by rw [Ny616.out, List.length_drop] <;> omega)
    rw [show (l0).drop (x7_1 : Int).toNat = y616 from Ny616.out.symm] at hr20
    replace hr20 : Kd.F k33 _ _ A20 y616.length y616 := (by rw [hA20]; exact hr20)
    rw [← hy20, ← hA20, ← hc20] at hcut20
    have HO620 := o_ (show Kd.V k33 33 _ w.heap.size _ (.slice A20 y616.length c20) y616 from Kd.V_mk (by rw [hy20, hc20]; exact Nat.sub_le_sub_right hroom20 _) hr20)
    have HC620 := o_ (show y616.length ≤ c20 from by rw [hy20, hc20]; exact Nat.sub_le_sub_right hroom20 _)
    clear hr20 hC20 hroom20 hi020 hsz20 hc20
    have KY20 := o_ hy20
    have KA20 := o_ hA20
    clear hy20 hA20
    replace q20 := eq_true q20
    go_wp2_with (first | ((with_reducible refine gate_builtin (b := .append) (xs := #[.tmp 37, .tmp 40]) rfl ?_); (try (refine gate_guard (by rfl) ?_; dsimp only)); at_builtin; refine Kd.N_append_rows k33 (w0 := w) w.heap.size rfl (.tmp 37) (.tmp 40) 23 33 (.agg #[(.int .i64 0), (.int .i64 0), (.int .i64 0), (.int .i64 0), (.string ⟨#[]⟩), (.string ⟨#[]⟩), (.slice none 0 0)]) 88 rfl Try.underlying23 info33 rfl (by decide) (by omega) u5 x5_1 y616 _ _ _ (fun k_ => (P0_ k_ ∨ w.heap.size ≤ k_)) (fun k_ => ((fun k_ => (P0_ k_ ∨ w.heap.size ≤ k_))) k_ ∧ some k_ ≠ (u5 : Value).ownBlock) rfl rfl ?aO ?aR (fun _ hk => hk) ?aF ?aB ?aS ?aL ?_; (case aR => exact (by skip; exact Kd.V_F (Kd.V_mono (ok' := (fun k_ => ((fun k_ => (P0_ k_ ∨ w.heap.size ≤ k_))) k_ ∧ some k_ ≠ (u5 : Value).ownBlock)) (HO620.out) (fun k_ hk => ⟨hk.1, hk.2⟩)))); (case aB => exact (bl HB)); (case aF => exact (fun k_ hk => (.inr (Nat.le_trans (below_size (bl HB)) hk)))); (case aO => exact (Nu HO_5)); (case aS => exact (below_size (bl HB))); (case aL => have := LMc18.out; omega); intro v622 w21 ho hb hg hat; rw [← Ny621.out] at ho; have n0_ := o_ (Kd.V_afterv (ok := (fun k_ => (P0_ k_ ∨ w.heap.size ≤ k_))) (Vu HO_0) hg hat); have n1_ := o_ (Kd.V_afterv (ok := (fun k_ => (P0_ k_ ∨ w.heap.size ≤ k_))) (Vu HO620) hg hat); have n2_ := o_ (hb); have n3_ := o_ (ho); clear HO_0; clear HO620; clear HB; clear HO_5; have HO_0 := n0_; have HO620 := n1_; have HB := n2_; have HO623 := n3_; clear n0_ n1_ n2_ n3_; clear ho hb hg hat; obtain ⟨Ao22, co22, eo22⟩ := Kd.N_slice HO623.out; subst eo22) | (go_at_call 32; (with_reducible refine (fill_own.calls _ _ y621 t624 _ ?side1 ?side2 A19.out).mono ?_); (case side1 => exact Cu ⟨(Kd.N_reads' HO623.out).2.2⟩); (case side2 => exact (Kd.N_reads' HO623.out).2.1); rintro e w23 ⟨v625, rfl, ho0, hb⟩; have n0_ := o_ (Kd.V_elder' (Vu HO_0) (Kd.S_base ho0) hb); have n1_ := o_ (Kd.V_elder' (Vu HO620) (Kd.S_base ho0) hb); have n2_ := o_ (Kd.N_elder' (Nu HO623) (Kd.S_base ho0) hb); have n3_ := o_ (Kd.N_lower (Kd.N_mono (ok' := fun k_ => (P0_ k_ ∨ w.heap.size ≤ k_) ∧ some k_ ≠ (.slice Ao22 y621.length co22 : Value).ownBlock) (Kd.S_N (Kd.S_bound ho0)) (fun k_ hk_ => ⟨(.inr (Nat.le_trans (below_size (bl HB)) hk_.2.1)), (Kd.fresh' (Kd.N_lt (Nu HO623)) k_ hk_.2.1)⟩)) (below_size (bl HB))); have n4_ := o_ (below_step (bl HB) hb); clear HO_0; clear HO620; clear HO623; clear HB; have HO_0 := n0_; have HO620 := n1_; have HO623 := n2_; have HO626 := n3_; have HB := n4_; clear n0_ n1_ n2_ n3_ n4_; (try clear hb); (try clear ho0)))
    go_ret
    exact ⟨_, by first | rfl | (simp [*] <;> rfl), by (with_reducible repeat (first | apply Kd.N_alloc | apply Kd.N_drewN | apply Kd.N_drew)); exact Kd.N_mono HO626.out (fun _ hk => hk.1), bl HB⟩
   rw [if_pos c3] at H
   have c3b0 := decide_eq_true c3
   clear c3
   by_cases c4 : 0 ≤ x12_1
   rotate_left
   ·rw [if_neg c4] at H
    exact absurd H (by simp)
   rw [if_pos c4] at H
   have c4b0 := decide_eq_true c4
   clear c4
   by_cases c5 : x12_1 < (l1.length : Int)
   rotate_left
   ·rw [if_neg c5] at H
    exact absurd H (by simp)
   rw [if_pos c5] at H
   have c5b0 := decide_eq_true c5
   clear c5
   by_cases c6 : (rd l1 x12_1) ≤ x6_1
   ·rw [if_pos c6] at H
    have c6b0 := decide_eq_true c6
    clear c6
    have H' := o_ H
    clear H
    have p604 : 0 ≤ (x12_1 : Int) := oa
    have q604 : x12_1 < (l1.length : Int) := oa
    obtain ⟨ad604, e604, hx604_0⟩ := Kd.at_int HR1.out x12_1 p604 q604
    cases e604
    replace hx604_0 := ct HB hx604_0
    replace p604 := eq_true p604
    replace q604 := eq_true q604
    go_wp2
    go_roundg k1
    case measure => have := HK1.out; omega
    case rel => exact ⟨(x5_1), (x6_1), (x7_1), (wrap64 (x12_1 + 1)), (by first | rfl | simp [*]), (by first | rfl | simp [*]), (by first | rfl | simp [*]), H', ⟨by have := HK1.out; omega⟩, ⟨Vu HO_0⟩, ⟨Nu HO_5⟩, ⟨bl HB⟩⟩
   rw [if_neg c6] at H
   have c6b0 := decide_eq_false c6
   clear c6
   by_cases c7 : (rd l1 x12_1) ≥ (l0.length : Int)
   ·rw [if_pos c7] at H
    have c7b0 : decide ((l0.length : Int) ≤ (rd l1 x12_1)) = true := decide_eq_true c7
    clear c7
    have H' := o_ H
    clear H
    have p604 : 0 ≤ (x12_1 : Int) := oa
    have q604 : x12_1 < (l1.length : Int) := oa
    obtain ⟨ad604, e604, hx604_0⟩ := Kd.at_int HR1.out x12_1 p604 q604
    cases e604
    replace hx604_0 := ct HB hx604_0
    replace p604 := eq_true p604
    replace q604 := eq_true q604
    go_wp2
    go_roundg k1
    case measure => have := HK1.out; omega
    case rel => exact ⟨(x5_1), (x6_1), (x7_1), (wrap64 (x12_1 + 1)), (by first | rfl | simp [*]), (by first | rfl | simp [*]), (by first | rfl | simp [*]), H', ⟨by have := HK1.out; omega⟩, ⟨Vu HO_0⟩, ⟨Nu HO_5⟩, ⟨bl HB⟩⟩
   rw [if_neg c7] at H
   have c7b0 : decide ((l0.length : Int) ≤ (rd l1 x12_1)) = false := decide_eq_false c7
   clear c7
   by_cases c8 : 0 ≤ x7_1
   rotate_left
   ·rw [if_neg c8] at H
    exact absurd H (by simp)
   rw [if_pos c8] at H
   have c8b0 := eq_true c8
   have c8b1 := decide_eq_true c8
   clear c8
   by_cases c9 : x7_1 ≤ (rd l1 x12_1)
   rotate_left
   ·rw [if_neg c9] at H
    exact absurd H (by simp)
   rw [if_pos c9] at H
   have c9b0 := eq_true c9
   have c9b1 := decide_eq_true c9
   clear c9
   by_cases c10 : (rd l1 x12_1) ≤ (l0.length : Int)
   rotate_left
   ·rw [if_neg c10] at H
    exact absurd H (by simp)
   rw [if_pos c10] at H
   have c10b0 := eq_true c10
   have c10b1 := decide_eq_true c10
   clear c10
   obtain ⟨y605, hy605⟩ : ∃ y_ : List (S33), y_ = ((l0.take ((rd l1 x12_1) : Int).toNat).drop (x7_1 : Int).toNat) := ⟨_, rfl⟩
   replace H : (if x5_1.length + y605.length < 1599289640401 then ((some (x5_1 ++ y605 : List (S33))).bind fun y610 => (if y610.length < 1599289640401 then (fill_Points.l0 k1 l0 (y610 ++ [(⟨5, 0, 0, 0, (⟨#[]⟩ : ByteArray), (⟨#[]⟩ : ByteArray), ([] : List Int)⟩ : S33)]) (rd l1 x12_1) (rd l1 x12_1) l1 (l1.length : Int) (wrap64 (x12_1 + 1))) else (none))) else (none)) = some r := by first | (rw [hy605]; with_reducible exact H) | (have H2_ := (Option.bind_some _ _).symm.trans H; rw [hy605]; with_reducible exact H2_) | (have H2_ := (Option.bind_some _ _).symm.trans H; with_reducible exact H2_) | with_reducible exact H | (rw [hy605]; exact H) | exact H
   have Ny605 := o_ hy605
   clear hy605
   by_cases c11 : x5_1.length + y605.length < 1599289640401
   rotate_left
   ·rw [if_neg c11] at H
    exact absurd H (by simp)
   rw [if_pos c11] at H
   have LMc11 := o_ c11
   clear c11
   obtain ⟨y610, hy610⟩ : ∃ y_ : List (S33), y_ = (x5_1 ++ y605) := ⟨_, rfl⟩
   replace H : (if y610.length < 1599289640401 then (fill_Points.l0 k1 l0 (y610 ++ [(⟨5, 0, 0, 0, (⟨#[]⟩ : ByteArray), (⟨#[]⟩ : ByteArray), ([] : List Int)⟩ : S33)]) (rd l1 x12_1) (rd l1 x12_1) l1 (l1.length : Int) (wrap64 (x12_1 + 1))) else (none)) = some r := by first | (rw [hy610]; with_reducible exact H) | (have H2_ := (Option.bind_some _ _).symm.trans H; rw [hy610]; with_reducible exact H2_) | (have H2_ := (Option.bind_some _ _).symm.trans H; with_reducible exact H2_) | with_reducible exact H | (rw [hy610]; exact H) | exact H
   have Ny610 := o_ hy610
   clear hy610
   by_cases c12 : y610.length < 1599289640401
   rotate_left
   ·rw [if_neg c12] at H
    exact absurd H (by simp)
   rw [if_pos c12] at H
   have LMc12 := o_ c12
   clear c12
   obtain ⟨y613, hy613⟩ : ∃ y_ : List (S33), y_ = (y610 ++ [(⟨5, 0, 0, 0, (⟨#[]⟩ : ByteArray), (⟨#[]⟩ : ByteArray), ([] : List Int)⟩ : S33)]) := ⟨_, rfl⟩
   replace H : (fill_Points.l0 k1 l0 y613 (rd l1 x12_1) (rd l1 x12_1) l1 (l1.length : Int) (wrap64 (x12_1 + 1))) = some r := by first | (rw [hy613]; with_reducible exact H) | (have H2_ := (Option.bind_some _ _).symm.trans H; rw [hy613]; with_reducible exact H2_) | (have H2_ := (Option.bind_some _ _).symm.trans H; with_reducible exact H2_) | with_reducible exact H | (rw [hy613]; exact H) | exact H
   have Ny613 := o_ hy613
   clear hy613
   have H' := o_ H
   clear H
   have p604 : 0 ≤ (x12_1 : Int) := oa
   have q604 : x12_1 < (l1.length : Int) := oa
   obtain ⟨ad604, e604, hx604_0⟩ := Kd.at_int HR1.out x12_1 p604 q604
   cases e604
   replace hx604_0 := ct HB hx604_0
   replace p604 := eq_true p604
   replace q604 := eq_true q604
   have q13 : ((rd l1 x12_1) : Int) ≤ ((l0.length : Int) : Int) := oa
   obtain ⟨i013, hi013, _, hsz13, _⟩ := info_parts info33
   have hroom13 : l0.length ≤ c0 := (Kd.V_reads' HO_0.out).2.1
   have hC13 : Kd.F k33 _ _ A0 l0.length l0 := (Kd.V_at (base := w.heap.size) HO_0.out).2.2
   have ql13 : (x7_1 : Int) ≤ ((rd l1 x12_1) : Int) := oa
   have q013 : (0 : Int) ≤ (x7_1 : Int) := oa
   have hcut13 := cut_mid (P := Try.prog) 23 33 .i64 .i64 Try.underlying23 hi013 7 hsz13 A0 l0.length c0 x7_1 (rd l1 x12_1) q013 ql13 q13 hroom13
   have hr13 := Kd.F_mid (lo := (x7_1 : Int).toNat) (hi := ((rd l1 x12_1) : Int).toNat) (c := c0) hC13 (by omega) (by omega) hroom13
   obtain ⟨A13, hA13⟩ : ∃ A1, A1 = (if c0 = (x7_1 : Int).toNat then A0 else (A0 : Option Addr).map (·.add ((x7_1 : Int).toNat * 7))) := ⟨_, rfl⟩
   obtain ⟨c13, hc13⟩ : ∃ c1, c1 = c0 - (x7_1 : Int).toNat := ⟨_, rfl⟩
   have hy13 : y605.length = ((rd l1 x12_1) : Int).toNat - (x7_1 : Int).toNat := (by rw [Ny605.out, List.length_drop, List.length_take] <;> omega)
   rw [show ((l0).take ((rd l1 x12_1) : Int).toNat).drop (x7_1 : Int).toNat = y605 from Ny605.out.symm] at hr13
   replace hr13 : Kd.F k33 _ _ A13 y605.length y605 := (by rw [hA13]; exact hr13)
   rw [← hy13, ← hA13, ← hc13] at hcut13
   have HO609 := o_ (show Kd.V k33 33 _ w.heap.size _ (.slice A13 y605.length c13) y605 from Kd.V_mk (by rw [hy13, hc13]; exact Nat.sub_le_sub_right (Nat.le_trans (by omega) hroom13) _) hr13)
   have HC609 := o_ (show y605.length ≤ c13 from by rw [hy13, hc13]; exact Nat.sub_le_sub_right (Nat.le_trans (by omega) hroom13) _)
   clear hr13 hC13 hroom13 hi013 hsz13 hc13
   have KY13 := o_ hy13
   have KA13 := o_ hA13
   clear hy13 hA13
   replace q13 := eq_true q13
   go_wp2_with (first | ((with_reducible refine gate_builtin (b := .append) (xs := #[.tmp 25, .tmp 29]) rfl ?_); (try (refine gate_guard (by rfl) ?_; dsimp only)); at_builtin; refine Kd.N_append_rows k33 (w0 := w) w.heap.size rfl (.tmp 25) (.tmp 29) 23 33 (.agg #[(.int .i64 0), (.int .i64 0), (.int .i64 0), (.int .i64 0), (.string ⟨#[]⟩), (.string ⟨#[]⟩), (.slice none 0 0)]) 88 rfl Try.underlying23 info33 rfl (by decide) (by omega) u5 x5_1 y605 _ _ _ (fun k_ => (P0_ k_ ∨ w.heap.size ≤ k_)) (fun k_ => ((fun k_ => (P0_ k_ ∨ w.heap.size ≤ k_))) k_ ∧ some k_ ≠ (u5 : Value).ownBlock) rfl rfl ?aO ?aR (fun _ hk => hk) ?aF ?aB ?aS ?aL ?_; (case aR => exact (by skip; exact Kd.V_F (Kd.V_mono (ok' := (fun k_ => ((fun k_ => (P0_ k_ ∨ w.heap.size ≤ k_))) k_ ∧ some k_ ≠ (u5 : Value).ownBlock)) (HO609.out) (fun k_ hk => ⟨hk.1, hk.2⟩)))); (case aB => exact (bl HB)); (case aF => exact (fun k_ hk => (.inr (Nat.le_trans (below_size (bl HB)) hk)))); (case aO => exact (Nu HO_5)); (case aS => exact (below_size (bl HB))); (case aL => have := LMc11.out; omega); intro v611 w14 ho hb hg hat; rw [← Ny610.out] at ho; have n0_ := o_ (Kd.V_afterv (ok := (fun k_ => (P0_ k_ ∨ w.heap.size ≤ k_))) (Vu HO_0) hg hat); have n1_ := o_ (Kd.V_afterv (ok := (fun k_ => (P0_ k_ ∨ w.heap.size ≤ k_))) (Vu HO609) hg hat); have n2_ := o_ (hb); have n3_ := o_ (ho); clear HO_0; clear HO609; clear HB; clear HO_5; have HO_0 := n0_; have HO609 := n1_; have HB := n2_; have HO612 := n3_; clear n0_ n1_ n2_ n3_; clear ho hb hg hat) | ((with_reducible refine gate_builtin (b := .append) (xs := #[.tmp 30, .tmp 32]) rfl ?_); (try (refine gate_guard (by rfl) ?_; dsimp only)); at_builtin; refine Kd.N_append k33 (w0 := w) w.heap.size rfl (.tmp 30) (.tmp 32) 23 33 (.agg #[(.int .i64 0), (.int .i64 0), (.int .i64 0), (.int .i64 0), (.string ⟨#[]⟩), (.string ⟨#[]⟩), (.slice none 0 0)]) 88 rfl Try.underlying23 info33 rfl (by decide) (by omega) v611 y610 (⟨5, 0, 0, 0, (⟨#[]⟩ : ByteArray), (⟨#[]⟩ : ByteArray), ([] : List Int)⟩ : S33) [.int .i64 5, .int .i64 0, .int .i64 0, .int .i64 0, .string ⟨#[]⟩, .string ⟨#[]⟩, .slice none 0 0] (fun k_ => (P0_ k_ ∨ w.heap.size ≤ k_)) (fun k_ => ((fun k_ => (P0_ k_ ∨ w.heap.size ≤ k_))) k_ ∧ some k_ ≠ (v611 : Value).ownBlock) rfl rfl ?aP (fun _ hk => hk) ?aF ?aO ?aB ?aS ?aL ?_; (case aP => exact (k33_mkF _ _ (⟨5, 0, 0, 0, (⟨#[]⟩ : ByteArray), (⟨#[]⟩ : ByteArray), ([] : List Int)⟩ : S33) (Nat.le_refl _) (Kd.F_nil _ _ _))); (case aB => exact (bl HB)); (case aF => exact (fun k_ hk => (.inr (Nat.le_trans (below_size (bl HB)) hk)))); (case aO => exact (Nu HO612)); (case aS => exact (below_size (bl HB))); (case aL => have := LMc12.out; omega); intro v614 w15 ho hb hg hat; rw [← Ny613.out] at ho; have n0_ := o_ (Kd.V_afterv (ok := (fun k_ => (P0_ k_ ∨ w.heap.size ≤ k_))) (Vu HO_0) hg hat); have n1_ := o_ (Kd.V_afterv (ok := (fun k_ => (P0_ k_ ∨ w.heap.size ≤ k_))) (Vu HO609) hg hat); have n2_ := o_ (hb); have n3_ := o_ (ho); clear HO_0; clear HO609; clear HB; clear HO612; have HO_0 := n0_; have HO609 := n1_; have HB := n2_; have HO615 := n3_; clear n0_ n1_ n2_ n3_; clear ho hb hg hat))
   go_roundg k1
   case measure => have := HK1.out; omega
   case rel => exact ⟨(y613), (rd l1 x12_1), (rd l1 x12_1), (wrap64 (x12_1 + 1)), (by first | rfl | simp [*]), (by first | rfl | simp [*]), (by first | rfl | simp [*]), H', ⟨by have := HK1.out; omega⟩, ⟨Vu HO_0⟩, ⟨Nu HO615⟩, ⟨bl HB⟩⟩
end Go.Proofs.Yteadghhmoggjnaa.Q
end
