import Derived.Test.YteadghhmoggjnaaFK3
import Derived.Test.YteadghhmoggjnaaFK14
import Derived.Test.YteadghhmoggjnaaFK13
section
namespace Go.Proofs.Yteadghhmoggjnaa.Q
open Go.RowKit Go.Proofs.YteadghhmoggjnaaW.PrintWords Go.Proofs.YteadghhmoggjnaaW.PrintLast

set_option linter.unusedVariables false
set_option linter.unusedSimpArgs false
/-! ### fill_rest: function 40 -/
def fill_rest.l0 : Nat → List (S33) → Option ((List (S33)))
 | 0, _ => none
 | k + 1, x0 => if (x0.length : Int) > 0 then (if 0 < (x0.length : Int) then ((fill_blank.f ((rd_T33 x0 0).f0) ((rd_T33 x0 0).f1) ((rd_T33 x0 0).f2) ((rd_T33 x0 0).f3) ((rd_T33 x0 0).f4) ((rd_T33 x0 0).f5) ((rd_T33 x0 0).f6)).bind fun t148 => (if t148 = true then (if 1 ≤ (x0.length : Int) then (fill_rest.l0 k (x0.drop 1)) else (none)) else (some x0))) else (none)) else (some x0)
def fill_rest.f (k : Nat) (l0 : List (S33)) : Option ((List (S33))) := fill_rest.l0 k l0
theorem fill_rest.mono_l : ∀ k, (∀ y0, LeO (fill_rest.l0 k y0) (fill_rest.l0 (k + 1) y0))
 | 0 => fun _ r h => by simp [fill_rest.l0] at h
 | k + 1 => by
  have ih0 := fill_rest.mono_l k
  ·intro y0
   unfold fill_rest.l0
   repeat' first
   | (with_reducible exact ih0 _)
   | (with_reducible exact LeO.refl _)
   | (with_reducible exact LeO.none _)
   | (with_reducible refine LeO.ite ?_ ?_)
   | (with_reducible refine LeO.bind ?_ (fun _ => ?_))
   | exact ih0 _
   | exact LeO.none _
   | refine LeO.ite ?_ ?_
   | refine LeO.bind ?_ (fun _ => ?_)
theorem fill_rest.mono : ∀ a0 k, LeO (fill_rest.f k a0) (fill_rest.f (k + 1) a0) := by
 intro a0 k
 have ih0 := fill_rest.mono_l k
 unfold fill_rest.f
 repeat' first
   | (with_reducible exact ih0 _)
   | (with_reducible exact LeO.refl _)
   | (with_reducible exact LeO.none _)
   | (with_reducible refine LeO.ite ?_ ?_)
   | (with_reducible refine LeO.bind ?_ (fun _ => ?_))
   | exact ih0 _
   | exact LeO.none _
   | refine LeO.ite ?_ ?_
   | refine LeO.bind ?_ (fun _ => ?_)
set_option maxHeartbeats 8000000 in
set_option maxRecDepth 100000 in
theorem fill_rest.calls (k : Nat) (P0_ : Nat → Prop) (A0 : Option Addr) (c0 : Nat) (l0 : List (S33)) (r : List (S33)) (w : World) (hs0 : Kd.V k33 33 w w.heap.size (fun k_ => P0_ k_) (.slice A0 l0.length c0) l0) (h : fill_rest.f k l0 = some r) :
  Calls Try.prog 40 #[.slice A0 l0.length c0] w fun e w' => ∃ v0_ : Value, e = .returned (v0_) ∧ Kd.V k33 33 w' w.heap.size (fun k_ => (P0_ k_ ∨ w.heap.size ≤ k_)) v0_ r ∧ Below w.heap.size w w' := by
 have hu33 := Try.underlying33
 have HO0 := Aside0.mk (show Kd.V k33 33 w w.heap.size (fun k_ => (P0_ k_ ∨ w.heap.size ≤ k_)) (.slice A0 l0.length c0) l0 from Kd.V_mono hs0 (fun k_ hk => .inl hk))
 have HB := Aside0.mk (Below.refl w.heap.size w)
 have H : (fill_rest.l0 k l0) = some r := h
 clear h
 have H' := Aside0.mk H
 clear H
 go_enter Try.func40, Try.ntmps40
 go_wp2
 go_loopg [0] k (fun kq v0 w' => ∃ (x0_1 : List (S33)), Aside0 (fill_rest.l0 kq x0_1 = some r) ∧ Aside0 (kq ≤ k) ∧ Aside0 (Kd.V k33 33 w' w.heap.size (fun k_ => (P0_ k_ ∨ w.heap.size ≤ k_)) v0 x0_1) ∧ Aside0 (Below w.heap.size w w'))
 case atStart => exact ⟨(l0), H', ⟨Nat.le_refl _⟩, ⟨by (with_reducible repeat (first | apply Kd.V_alloc | apply Kd.V_drewN | apply Kd.V_drew)); exact HO0.out⟩, ⟨by repeat (first | (with_reducible first | exact HB.out | apply below_alloc | apply pw_below_drewN | apply below_drew1) | exact HB.out)⟩⟩
 case round =>
  clear H'
  obtain ⟨x0_1, HA, HK1, HO_0, HB⟩ := hrel
  cases gk with
  | zero => exact absurd HA.out (by simp [fill_rest.l0])
  | succ k1 =>
   have H := HA.out
   clear HA
   simp only [fill_rest.l0] at H
   by_cases c2 : (x0_1.length : Int) > 0
   ·rw [if_pos c2] at H
    have c2b0 : decide (0 < (x0_1.length : Int)) = true := decide_eq_true c2
    have c2b1 : decide (0 < x0_1.length) = true := decide_eq_true (by omega)
    clear c2
    by_cases c3 : 0 < (x0_1.length : Int)
    ·rw [if_pos c3] at H
     have c3b0 : decide (0 < (x0_1.length : Int)) = true := decide_eq_true c3
     have c3b1 : decide (0 < x0_1.length) = true := decide_eq_true (by omega)
     clear c3
     replace H := Option.bind_eq_some_iff.mp H
     obtain ⟨t148, A40, H⟩ := H
     replace H : (if t148 = true then (if 1 ≤ (x0_1.length : Int) then (fill_rest.l0 k1 (x0_1.drop 1)) else (none)) else (some x0_1)) = some r := H
     have A4 := Aside0.mk A40
     clear A40
     by_cases c5 : t148 = true
     ·subst c5
      have H1 : (if 1 ≤ (x0_1.length : Int) then (fill_rest.l0 k1 (x0_1.drop 1)) else (none)) = some r := by rw [if_pos rfl] at H; exact H
      clear H
      have H := H1
      clear H1
      by_cases c6 : 1 ≤ (x0_1.length : Int)
      ·rw [if_pos c6] at H
       have c6b0 := eq_true c6
       have c6b1 : decide (1 ≤ (x0_1.length : Int)) = true := decide_eq_true c6
       clear c6
       obtain ⟨y149, hy149⟩ : ∃ y_ : List (S33), y_ = (x0_1.drop 1) := ⟨_, rfl⟩
       replace H : (fill_rest.l0 k1 y149) = some r := by first | (rw [hy149]; with_reducible exact H) | (have H2_ := (Option.bind_some _ _).symm.trans H; rw [hy149]; with_reducible exact H2_) | (have H2_ := (Option.bind_some _ _).symm.trans H; with_reducible exact H2_) | with_reducible exact H | (rw [hy149]; exact H) | exact H
       have Ny149 := Aside0.mk hy149
       clear hy149
       have H' := Aside0.mk H
       clear H
       obtain ⟨Ao7, co7, eo7⟩ := Kd.V_slice HO_0.out
       subst eo7
       have p147 : 0 ≤ (0 : Int) := (by omega)
       have q147 : 0 < (x0_1.length : Int) := of_decide_eq_true (by first | (with_reducible assumption) | assumption)
       obtain ⟨ad147, A147_6, c147_6, e147, hx147_0, hx147_1, hx147_2, hx147_3, hx147_4, hx147_5, hx147_6, hl147_6, hi147_6⟩ := at_T33 (Kd.V_reads' HO_0.out).2.2 0 p147 q147
       cases e147
       obtain ⟨ce147, hce147, hMe147, hcc147⟩ := Kd.V_get HO_0.out z33 0 p147 (by first | exact q147 | exact of_decide_eq_true (by first | (with_reducible assumption) | assumption) | (have e_ := (Kd.V_reads' HO_0.out).1; omega))
       obtain ⟨ua147_6, uc147_6, rfl, ul147_6, ge147_6⟩ := k33_openF hMe147
       have hv147_6 := hcc147 6 _ rfl
       rw [add_field _ _ 6 (by omega)] at hv147_6
       replace hv147_6 := Option.some.inj (hv147_6.symm.trans hx147_6)
       injection hv147_6 with hva_ hvn_ hvc_
       rw [hva_] at ge147_6
       rw [hvc_] at ul147_6
       have HL147_6 := Aside0.mk (show Kd.V (Kd.int .i64) 3 _ w.heap.size _ _ ((rd_T33 x0_1 0).f6) from Kd.V_mk ul147_6 ge147_6)
       clear hva_ hvn_ hvc_ ge147_6 ul147_6
       clear hcc147 hce147
       have qi147 : (0 < x0_1.length) = True := eq_true (by omega)
       (try rw [show ((0 : Int)).toNat = 0 from rfl] at hx147_0)
       (try rw [show 0 * 7 = 0 from rfl] at hx147_0)
       (try rw [Addr.add_zero'] at hx147_0)
       (try rw [show ((0 : Int)).toNat = 0 from rfl] at hx147_1)
       (try rw [show 0 * 7 = 0 from rfl] at hx147_1)
       (try rw [Addr.add_zero'] at hx147_1)
       (try rw [show ((0 : Int)).toNat = 0 from rfl] at hx147_2)
       (try rw [show 0 * 7 = 0 from rfl] at hx147_2)
       (try rw [Addr.add_zero'] at hx147_2)
       (try rw [show ((0 : Int)).toNat = 0 from rfl] at hx147_3)
       (try rw [show 0 * 7 = 0 from rfl] at hx147_3)
       (try rw [Addr.add_zero'] at hx147_3)
       (try rw [show ((0 : Int)).toNat = 0 from rfl] at hx147_4)
       (try rw [show 0 * 7 = 0 from rfl] at hx147_4)
       (try rw [Addr.add_zero'] at hx147_4)
       (try rw [show ((0 : Int)).toNat = 0 from rfl] at hx147_5)
       (try rw [show 0 * 7 = 0 from rfl] at hx147_5)
       (try rw [Addr.add_zero'] at hx147_5)
       (try rw [show ((0 : Int)).toNat = 0 from rfl] at hx147_6)
       (try rw [show 0 * 7 = 0 from rfl] at hx147_6)
       (try rw [Addr.add_zero'] at hx147_6)
       have HR147_6 := Aside0.mk hi147_6
       have HC147_6 := Aside0.mk hl147_6
       clear hi147_6 hl147_6
       replace p147 := eq_true p147
       replace q147 := eq_true q147
       go_wp2_with (first | (go_at_call 66; (with_reducible refine (fill_blank.calls ((rd_T33 x0_1 0).f0) ((rd_T33 x0_1 0).f1) ((rd_T33 x0_1 0).f2) ((rd_T33 x0_1 0).f3) ((rd_T33 x0_1 0).f4) ((rd_T33 x0_1 0).f5) _ _ ((rd_T33 x0_1 0).f6) true _ ?side1 ?side2 A4.out).mono ?_); (case side1 => repeat (first | exact (by repeat (first | (with_reducible exact HR147_6.out) | (with_reducible refine Kd.C_alloc ?_ _) | (with_reducible refine Kd.C_drewN ?_ _) | (with_reducible refine Kd.C_drew ?_) | exact HR147_6.out)) | (with_reducible refine Kd.C_alloc ?_ _) | (with_reducible refine Kd.C_drewN ?_ _) | (with_reducible refine Kd.C_drew ?_))); (case side2 => exact HC147_6.out); rintro e w8 ⟨rfl, hb⟩; have n0_ := Aside0.mk (Kd.V_below (by (with_reducible repeat (first | apply Kd.V_alloc | apply Kd.V_drewN | apply Kd.V_drew)); exact HO_0.out) hb); have n1_ := Aside0.mk (Kd.V_below (by (with_reducible repeat (first | apply Kd.V_alloc | apply Kd.V_drewN | apply Kd.V_drew)); exact HL147_6.out) hb); have n2_ := Aside0.mk (Kd.C_below (by repeat (first | (with_reducible exact HR147_6.out) | (with_reducible refine Kd.C_alloc ?_ _) | (with_reducible refine Kd.C_drewN ?_ _) | (with_reducible refine Kd.C_drew ?_) | exact HR147_6.out)) hb); have n3_ := Aside0.mk (below_step (by repeat (first | (with_reducible first | exact HB.out | apply below_alloc | apply pw_below_drewN | apply below_drew1) | exact HB.out)) hb); clear HO_0; clear HL147_6; clear HR147_6; clear HB; have HO_0 := n0_; have HL147_6 := n1_; have HR147_6 := n2_; have HB := n3_; clear n0_ n1_ n2_ n3_; (try clear hb); (try clear hb2); (try clear hk); (try clear hi); have q9 : (1 : Int) ≤ ((x0_1.length : Int) : Int) := of_decide_eq_true (by first | (with_reducible assumption) | assumption); obtain ⟨i09, hi09, _, hsz9, _⟩ := info_parts info33; have hroom9 : x0_1.length ≤ co7 := (Kd.V_reads' HO_0.out).2.1; have hC9 : Kd.F k33 _ _ (some ad147) x0_1.length x0_1 := (Kd.V_at (base := w.heap.size) HO_0.out).2.2; have hcut9 := cut_from (P := Try.prog) 23 33 .i64 Try.underlying23 hi09 7 hsz9 (some ad147) x0_1.length co7 1 (by omega) q9; have hr9 := Kd.F_cut (m := (1 : Int).toNat) (c := co7) hC9 (by omega) hroom9; obtain ⟨A9, hA9⟩ : ∃ A1, A1 = (if co7 = (1 : Int).toNat then (some ad147) else ((some ad147) : Option Addr).map (·.add ((1 : Int).toNat * 7))) := ⟨_, rfl⟩; obtain ⟨c9, hc9⟩ : ∃ c1, c1 = co7 - (1 : Int).toNat := ⟨_, rfl⟩; have hy9 : y149.length = x0_1.length - (1 : Int).toNat := (by rw [Ny149.out, List.length_drop] <;> omega); rw [show (x0_1).drop (1 : Int).toNat = y149 from Ny149.out.symm] at hr9; replace hr9 : Kd.F k33 _ _ A9 y149.length y149 := (by rw [hA9]; exact hr9); rw [← hy9, ← hA9, ← hc9] at hcut9; have HO153 := Aside0.mk (show Kd.V k33 33 _ w.heap.size _ (.slice A9 y149.length c9) y149 from Kd.V_mk (by rw [hy9, hc9]; exact Nat.sub_le_sub_right hroom9 _) hr9); have HC153 := Aside0.mk (show y149.length ≤ c9 from by rw [hy9, hc9]; exact Nat.sub_le_sub_right hroom9 _); clear hr9 hC9 hroom9 hi09 hsz9 hc9; have KY9 := Aside0.mk hy9; have KA9 := Aside0.mk hA9; clear hy9 hA9; replace q9 := eq_true q9))
       go_roundg k1
       case measure => have := HK1.out; omega
       case rel => exact ⟨(y149), H', ⟨by have := HK1.out; omega⟩, ⟨by (with_reducible repeat (first | apply Kd.V_alloc | apply Kd.V_drewN | apply Kd.V_drew)); exact HO153.out⟩, ⟨by repeat (first | (with_reducible first | exact HB.out | apply below_alloc | apply pw_below_drewN | apply below_drew1) | exact HB.out)⟩⟩
      ·rw [if_neg c6] at H
       exact absurd H (by simp)
     ·replace c5 := Bool.eq_false_iff.mpr c5
      subst c5
      have H1 : (some x0_1) = some r := by rw [if_neg (show ¬ (false = true) by decide)] at H; exact H
      clear H
      have H := H1
      clear H1
      obtain rfl := Option.some.inj H
      obtain ⟨Ao10, co10, eo10⟩ := Kd.V_slice HO_0.out
      subst eo10
      have p147 : 0 ≤ (0 : Int) := (by omega)
      have q147 : 0 < (x0_1.length : Int) := of_decide_eq_true (by first | (with_reducible assumption) | assumption)
      obtain ⟨ad147, A147_6, c147_6, e147, hx147_0, hx147_1, hx147_2, hx147_3, hx147_4, hx147_5, hx147_6, hl147_6, hi147_6⟩ := at_T33 (Kd.V_reads' HO_0.out).2.2 0 p147 q147
      cases e147
      obtain ⟨ce147, hce147, hMe147, hcc147⟩ := Kd.V_get HO_0.out z33 0 p147 (by first | exact q147 | exact of_decide_eq_true (by first | (with_reducible assumption) | assumption) | (have e_ := (Kd.V_reads' HO_0.out).1; omega))
      obtain ⟨ua147_6, uc147_6, rfl, ul147_6, ge147_6⟩ := k33_openF hMe147
      have hv147_6 := hcc147 6 _ rfl
      rw [add_field _ _ 6 (by omega)] at hv147_6
      replace hv147_6 := Option.some.inj (hv147_6.symm.trans hx147_6)
      injection hv147_6 with hva_ hvn_ hvc_
      rw [hva_] at ge147_6
      rw [hvc_] at ul147_6
      have HL147_6 := Aside0.mk (show Kd.V (Kd.int .i64) 3 _ w.heap.size _ _ ((rd_T33 x0_1 0).f6) from Kd.V_mk ul147_6 ge147_6)
      clear hva_ hvn_ hvc_ ge147_6 ul147_6
      clear hcc147 hce147
      have qi147 : (0 < x0_1.length) = True := eq_true (by omega)
      (try rw [show ((0 : Int)).toNat = 0 from rfl] at hx147_0)
      (try rw [show 0 * 7 = 0 from rfl] at hx147_0)
      (try rw [Addr.add_zero'] at hx147_0)
      (try rw [show ((0 : Int)).toNat = 0 from rfl] at hx147_1)
      (try rw [show 0 * 7 = 0 from rfl] at hx147_1)
      (try rw [Addr.add_zero'] at hx147_1)
      (try rw [show ((0 : Int)).toNat = 0 from rfl] at hx147_2)
      (try rw [show 0 * 7 = 0 from rfl] at hx147_2)
      (try rw [Addr.add_zero'] at hx147_2)
      (try rw [show ((0 : Int)).toNat = 0 from rfl] at hx147_3)
      (try rw [show 0 * 7 = 0 from rfl] at hx147_3)
      (try rw [Addr.add_zero'] at hx147_3)
      (try rw [show ((0 : Int)).toNat = 0 from rfl] at hx147_4)
      (try rw [show 0 * 7 = 0 from rfl] at hx147_4)
      (try rw [Addr.add_zero'] at hx147_4)
      (try rw [show ((0 : Int)).toNat = 0 from rfl] at hx147_5)
      (try rw [show 0 * 7 = 0 from rfl] at hx147_5)
      (try rw [Addr.add_zero'] at hx147_5)
      (try rw [show ((0 : Int)).toNat = 0 from rfl] at hx147_6)
      (try rw [show 0 * 7 = 0 from rfl] at hx147_6)
      (try rw [Addr.add_zero'] at hx147_6)
      have HR147_6 := Aside0.mk hi147_6
      have HC147_6 := Aside0.mk hl147_6
      clear hi147_6 hl147_6
      replace p147 := eq_true p147
      replace q147 := eq_true q147
      go_wp2_with (first | (go_at_call 66; (with_reducible refine (fill_blank.calls ((rd_T33 x0_1 0).f0) ((rd_T33 x0_1 0).f1) ((rd_T33 x0_1 0).f2) ((rd_T33 x0_1 0).f3) ((rd_T33 x0_1 0).f4) ((rd_T33 x0_1 0).f5) _ _ ((rd_T33 x0_1 0).f6) false _ ?side1 ?side2 A4.out).mono ?_); (case side1 => repeat (first | exact (by repeat (first | (with_reducible exact HR147_6.out) | (with_reducible refine Kd.C_alloc ?_ _) | (with_reducible refine Kd.C_drewN ?_ _) | (with_reducible refine Kd.C_drew ?_) | exact HR147_6.out)) | (with_reducible refine Kd.C_alloc ?_ _) | (with_reducible refine Kd.C_drewN ?_ _) | (with_reducible refine Kd.C_drew ?_))); (case side2 => exact HC147_6.out); rintro e w11 ⟨rfl, hb⟩; have n0_ := Aside0.mk (Kd.V_below (by (with_reducible repeat (first | apply Kd.V_alloc | apply Kd.V_drewN | apply Kd.V_drew)); exact HO_0.out) hb); have n1_ := Aside0.mk (Kd.V_below (by (with_reducible repeat (first | apply Kd.V_alloc | apply Kd.V_drewN | apply Kd.V_drew)); exact HL147_6.out) hb); have n2_ := Aside0.mk (Kd.C_below (by repeat (first | (with_reducible exact HR147_6.out) | (with_reducible refine Kd.C_alloc ?_ _) | (with_reducible refine Kd.C_drewN ?_ _) | (with_reducible refine Kd.C_drew ?_) | exact HR147_6.out)) hb); have n3_ := Aside0.mk (below_step (by repeat (first | (with_reducible first | exact HB.out | apply below_alloc | apply pw_below_drewN | apply below_drew1) | exact HB.out)) hb); clear HO_0; clear HL147_6; clear HR147_6; clear HB; have HO_0 := n0_; have HL147_6 := n1_; have HR147_6 := n2_; have HB := n3_; clear n0_ n1_ n2_ n3_; (try clear hb); (try clear hb2); (try clear hk); (try clear hi)))
      go_ret
      exact ⟨_, by first | rfl | (simp [errW_none, errW_some] <;> rfl) | (simp [*, errW_none, errW_some] <;> rfl), by (with_reducible repeat (first | apply Kd.V_alloc | apply Kd.V_drewN | apply Kd.V_drew)); exact HO_0.out, by repeat (first | (with_reducible first | exact HB.out | apply below_alloc | apply pw_below_drewN | apply below_drew1) | exact HB.out)⟩
    ·rw [if_neg c3] at H
     exact absurd H (by simp)
   ·rw [if_neg c2] at H
    have c2b0 : decide (0 < (x0_1.length : Int)) = false := decide_eq_false c2
    have c2b1 : decide (0 < x0_1.length) = false := decide_eq_false (by omega)
    clear c2
    obtain rfl := Option.some.inj H
    obtain ⟨Ao12, co12, eo12⟩ := Kd.V_slice HO_0.out
    subst eo12
    go_wp2
    go_ret
    exact ⟨_, by first | rfl | (simp [errW_none, errW_some] <;> rfl) | (simp [*, errW_none, errW_some] <;> rfl), by (with_reducible repeat (first | apply Kd.V_alloc | apply Kd.V_drewN | apply Kd.V_drew)); exact HO_0.out, by repeat (first | (with_reducible first | exact HB.out | apply below_alloc | apply pw_below_drewN | apply below_drew1) | exact HB.out)⟩
end Go.Proofs.Yteadghhmoggjnaa.Q
end
section
/- fill.Words: what it computes, and the walk. -/
namespace Go.Proofs.Yteadghhmoggjnaa.Q
open Go.RowKit Go.Proofs.YteadghhmoggjnaaW.PrintWords Go.Proofs.YteadghhmoggjnaaW.PrintLast
open Go.Proofs.YteadghhmoggjnaaB (C_boxes rd_boxes boxK rest_any SlRd Kind.Rd restL blankB okL okL_len okL_max okL_small restL_le restL_mem restL_head)

set_option linter.unusedVariables false
set_option linter.unusedSimpArgs false
theorem fblank_f (x : S33) : fill_blank.f x.f0 x.f1 x.f2 x.f3 x.f4 x.f5 x.f6 = some (blankB x) := by
 unfold fill_blank.f blankB
 by_cases h : x.f0 = 1
 ·rw [if_pos h, h]; rfl
 ·rw [if_neg h, beq_eq_false_iff_ne.2 h]; rfl
theorem frest_f : ∀ l : List S33, fill_rest.f (l.length + 1) l = some (restL l)
 | [] => by
  show fill_rest.l0 1 [] = some (restL [])
  rw [fill_rest.l0, if_neg (by simp)]
  rfl
 | x :: r => by
  show fill_rest.l0 ((x :: r).length + 1) (x :: r) = some (restL (x :: r))
  rw [fill_rest.l0, if_pos (by simp), if_pos (by simp)]
  have e : rd_T33 (x :: r) 0 = x := rfl
  rw [e, fblank_f, Option.bind_some]
  unfold restL
  rw [List.dropWhile_cons]
  by_cases hb : blankB x = true
  ·rw [if_pos hb, if_pos hb, if_pos (by rw [List.length_cons]; omega)]
   exact frest_f r
  ·rw [if_neg hb, if_neg hb]
end Go.Proofs.Yteadghhmoggjnaa.Q
end
