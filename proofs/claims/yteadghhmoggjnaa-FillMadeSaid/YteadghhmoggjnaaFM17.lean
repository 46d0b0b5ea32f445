import Derived.Test.YteadghhmoggjnaaFM14
set_option linter.unusedVariables false
set_option linter.unusedSimpArgs false
section
namespace Go.Proofs.Yteadghhmoggjnaa.Q
open Go.RowKit YteadghhmoggjnaaW.PrintWords YteadghhmoggjnaaW.PrintLast YteadghhmoggjnaaW.PrintMore
attribute [local go_sem] max2_int max_two
set_option maxHeartbeats 8000000
set_option maxRecDepth 100000
def r_front.l0 : Nat → List (S33) → Int → Option ((List (S33)))
 | 0, _, _ => none
 | k + 1, x0, x3 => if x3 < (x0.length : Int) then (if 0 ≤ x3 then ((r_Blank.f ((rT x0 x3).f0) ((rT x0 x3).f1) ((rT x0 x3).f2) ((rT x0 x3).f3) ((rT x0 x3).f4) ((rT x0 x3).f5) ((rT x0 x3).f6)).bind fun t426 => (if t426 = true then (r_front.l0 k x0 (wrap64 (x3 + 1))) else (if x3 ≤ (x0.length : Int) then (some (x0.drop (x3 : Int).toNat)) else (none)))) else (none)) else (if 0 ≤ x3 then (if x3 ≤ (x0.length : Int) then (some (x0.drop (x3 : Int).toNat)) else (none)) else (none))
def r_front.f (k : Nat) (l0 : List (S33)) : Option ((List (S33))) := r_front.l0 k l0 0
theorem r_front.calls (k : Nat) (P0_ : Nat → Prop) (A0 : Option Addr) (c0 : Nat) (l0 : List (S33)) (r : List (S33)) (w : World) (hs0 : Kd.V k33 33 w w.heap.size (fun k_ => P0_ k_) (.slice A0 l0.length c0) l0) (h : r_front.f k l0 = some r) :
  Calls Try.prog 70 #[.slice A0 l0.length c0] w fun e w' => ∃ v0_ : Value, e = .returned (v0_) ∧ Kd.V k33 33 w' w.heap.size (fun k_ => (P0_ k_ ∨ w.heap.size ≤ k_)) v0_ r ∧ Below w.heap.size w w' := by
 have hu33 := Try.underlying33
 have HO0 := o_ (show Kd.V k33 33 w w.heap.size (fun k_ => (P0_ k_ ∨ w.heap.size ≤ k_)) (.slice A0 l0.length c0) l0 from Kd.V_mono hs0 (fun k_ hk => .inl hk))
 have HB := o_ (Below.refl w.heap.size w)
 have H : (r_front.l0 k l0 0) = some r := h
 clear h
 have H' := o_ H
 clear H
 go_enter Try.func70, Try.ntmps70
 go_wp2
 go_loopg [3] k (fun kq v3 w' => ∃ (x3_1 : Int), v3 = .int .i64 x3_1 ∧ As (r_front.l0 kq l0 x3_1 = some r) ∧ As (kq ≤ k) ∧ As (Kd.V k33 33 w' w.heap.size (fun k_ => (P0_ k_ ∨ w.heap.size ≤ k_)) (.slice A0 l0.length c0) l0) ∧ As (Below w.heap.size w w'))
 case atStart => exact ⟨(0), (by first | rfl | simp [*]), H', ⟨Nat.le_refl _⟩, ⟨Vu HO0⟩, ⟨bl HB⟩⟩
 case round =>
  clear H'
  obtain ⟨x3_1, rfl, HA, HK1, HO_0, HB⟩ := hrel
  cases gk with
  | zero => exact absurd HA.out (by simp [r_front.l0])
  | succ k1 =>
   have H := HA.out
   clear HA
   simp only [r_front.l0] at H
   by_cases c2 : x3_1 < (l0.length : Int)
   rotate_left
   ·rw [if_neg c2] at H
    have c2b0 := decide_eq_false c2
    clear c2
    by_cases c11 : 0 ≤ x3_1
    rotate_left
    ·rw [if_neg c11] at H
     exact absurd H (by simp)
    rw [if_pos c11] at H
    have c11b0 := eq_true c11
    have c11b1 := decide_eq_true c11
    clear c11
    by_cases c12 : x3_1 ≤ (l0.length : Int)
    rotate_left
    ·rw [if_neg c12] at H
     exact absurd H (by simp)
    rw [if_pos c12] at H
    have c12b0 := eq_true c12
    have c12b1 := decide_eq_true c12
    clear c12
    obtain ⟨y432, hy432⟩ : ∃ y_ : List (S33), y_ = (l0.drop (x3_1 : Int).toNat) := ⟨_, rfl⟩
    replace H : (some y432) = some r := by first | (rw [hy432]; with_reducible exact H) | (have H2_ := (Option.bind_some _ _).symm.trans H; rw [hy432]; with_reducible exact H2_) | (have H2_ := (Option.bind_some _ _).symm.trans H; with_reducible exact H2_) | with_reducible exact H | (rw [hy432]; exact H) | exact H
    have Ny432 := o_ hy432
    clear hy432
    obtain rfl := Option.some.inj H
    have q13 : (x3_1 : Int) ≤ ((l0.length : Int) : Int) := oa
    obtain ⟨i013, hi013, _, hsz13, _⟩ := info_parts info33
    have hroom13 : l0.length ≤ c0 := (Kd.V_reads' HO_0.out).2.1
    have hC13 : Kd.F k33 _ _ A0 l0.length l0 := (Kd.V_at (base := w.heap.size) HO_0.out).2.2
    have q013 : (0 : Int) ≤ (x3_1 : Int) := oa
    have hcut13 := cut_from (P := Try.prog) 23 33 .i64 Try.underlying23 hi013 7 hsz13 A0 l0.length c0 x3_1 q013 q13
    have hr13 := Kd.F_cut (m := (x3_1 : Int).toNat) (c := c0) hC13 (by omega) hroom13
    obtain ⟨A13, hA13⟩ : ∃ A1, A1 = (if c0 = (x3_1 : Int).toNat then A0 else (A0 : Option Addr).map (·.add ((x3_1 : Int).toNat * 7))) := ⟨_, rfl⟩
    obtain ⟨c13, hc13⟩ : ∃ c1, c1 = c0 - (x3_1 : Int).toNat := ⟨_, rfl⟩
    have hy13 : y432.length = l0.length - (x3_1 : Int).toNat := (by rw [Ny432.out, List.length_drop] <;> omega)
    rw [show (l0).drop (x3_1 : Int).toNat = y432 from Ny432.out.symm] at hr13
    replace hr13 : Kd.F k33 _ _ A13 y432.length y432 := (by rw [hA13]; exact hr13)
    rw [← hy13, ← hA13, ← hc13] at hcut13
    have HO436 := o_ (show Kd.V k33 33 _ w.heap.size _ (.slice A13 y432.length c13) y432 from Kd.V_mk (by rw [hy13, hc13]; exact Nat.sub_le_sub_right hroom13 _) hr13)
    have HC436 := o_ (show y432.length ≤ c13 from by rw [hy13, hc13]; exact Nat.sub_le_sub_right hroom13 _)
    clear hr13 hC13 hroom13 hi013 hsz13 hc13
    have KY13 := o_ hy13
    have KA13 := o_ hA13
    clear hy13 hA13
    replace q13 := eq_true q13
    go_wp2
    go_ret
    exact ⟨_, by first | rfl | (simp [*] <;> rfl), Vu HO436, bl HB⟩
   rw [if_pos c2] at H
   have c2b0 := decide_eq_true c2
   clear c2
   by_cases c3 : 0 ≤ x3_1
   rotate_left
   ·rw [if_neg c3] at H
    exact absurd H (by simp)
   rw [if_pos c3] at H
   have c3b0 := decide_eq_true c3
   clear c3
   obtain ⟨t426, A40, H⟩ := qb H
   try dsimp only at H
   have A4 := o_ A40
   clear A40
   by_cases c5 : t426 = true
   ·subst c5
    have H1 : (r_front.l0 k1 l0 (wrap64 (x3_1 + 1))) = some r := by rw [if_pos rfl] at H; exact H
    clear H
    have H := H1
    clear H1
    have H' := o_ H
    clear H
    have p425 : 0 ≤ (x3_1 : Int) := oa
    have q425 : x3_1 < (l0.length : Int) := oa
    obtain ⟨ad425, A425_6, c425_6, e425, hx425_0, hx425_1, hx425_2, hx425_3, hx425_4, hx425_5, hx425_6, hl425_6, hi425_6⟩ := aT (Kd.V_reads' HO_0.out).2.2 x3_1 p425 q425
    cases e425
    obtain ⟨ce425, hce425, hMe425, hcc425⟩ := Kd.V_get HO_0.out z33 x3_1 p425 (by first | exact q425 | exact oa | (have e_ := (Kd.V_reads' HO_0.out).1; omega))
    obtain ⟨ua425_6, uc425_6, rfl, ul425_6, ge425_6⟩ := k33_openF hMe425
    have hv425_6 := hcc425 6 _ rfl
    rw [add_field _ _ 6 (by omega)] at hv425_6
    replace hv425_6 := Option.some.inj (hv425_6.symm.trans hx425_6)
    injection hv425_6 with hva_ hvn_ hvc_
    rw [hva_] at ge425_6
    rw [hvc_] at ul425_6
    have HL425_6 := o_ (show Kd.V (Kd.int .i64) 3 _ w.heap.size _ _ ((rT l0 x3_1).f6) from Kd.V_mk ul425_6 ge425_6)
    clear hva_ hvn_ hvc_ ge425_6 ul425_6
    clear hcc425 hce425
    have HR425_6 := o_ hi425_6
    have HC425_6 := o_ hl425_6
    clear hi425_6 hl425_6
    replace p425 := eq_true p425
    replace q425 := eq_true q425
    go_wp2_with (first | (go_at_call 22; (with_reducible refine (r_Blank.calls ((rT l0 x3_1).f0) ((rT l0 x3_1).f1) ((rT l0 x3_1).f2) ((rT l0 x3_1).f3) ((rT l0 x3_1).f4) ((rT l0 x3_1).f5) _ _ ((rT l0 x3_1).f6) true _ ?side1 ?side2 A4.out).mono ?_); (case side1 => repeat (first | exact (by repeat (first | (with_reducible exact HR425_6.out) | (with_reducible refine Kd.C_alloc ?_ _) | (with_reducible refine Kd.C_drewN ?_ _) | (with_reducible refine Kd.C_drew ?_) | exact HR425_6.out)) | (with_reducible refine Kd.C_alloc ?_ _) | (with_reducible refine Kd.C_drewN ?_ _) | (with_reducible refine Kd.C_drew ?_))); (case side2 => exact HC425_6.out); rintro e w6 ⟨rfl, hb⟩; have n0_ := o_ (Kd.V_below (Vu HO_0) hb); have n1_ := o_ (Kd.V_below (Vu HL425_6) hb); have n2_ := o_ (Kd.C_below (by repeat (first | (with_reducible exact HR425_6.out) | (with_reducible refine Kd.C_alloc ?_ _) | (with_reducible refine Kd.C_drewN ?_ _) | (with_reducible refine Kd.C_drew ?_) | exact HR425_6.out)) hb); have n3_ := o_ (below_step (bl HB) hb); clear HO_0; clear HL425_6; clear HR425_6; clear HB; have HO_0 := n0_; have HL425_6 := n1_; have HR425_6 := n2_; have HB := n3_; clear n0_ n1_ n2_ n3_; (try clear hb)))
    go_roundg k1
    case measure => have := HK1.out; omega
    case rel => exact ⟨(wrap64 (x3_1 + 1)), (by first | rfl | simp [*]), H', ⟨by have := HK1.out; omega⟩, ⟨Vu HO_0⟩, ⟨bl HB⟩⟩
   replace c5 := Bool.eq_false_iff.mpr c5
   subst c5
   have H1 : (if x3_1 ≤ (l0.length : Int) then (some (l0.drop (x3_1 : Int).toNat)) else (none)) = some r := by rw [if_neg (show ¬ (false = true) by decide)] at H; exact H
   clear H
   have H := H1
   clear H1
   have c7b0 := eq_true (oa : 0 ≤ x3_1)
   by_cases c8 : x3_1 ≤ (l0.length : Int)
   rotate_left
   ·rw [if_neg c8] at H
    exact absurd H (by simp)
   rw [if_pos c8] at H
   have c8b0 := eq_true c8
   have c8b1 := decide_eq_true c8
   clear c8
   obtain ⟨y427, hy427⟩ : ∃ y_ : List (S33), y_ = (l0.drop (x3_1 : Int).toNat) := ⟨_, rfl⟩
   replace H : (some y427) = some r := by first | (rw [hy427]; with_reducible exact H) | (have H2_ := (Option.bind_some _ _).symm.trans H; rw [hy427]; with_reducible exact H2_) | (have H2_ := (Option.bind_some _ _).symm.trans H; with_reducible exact H2_) | with_reducible exact H | (rw [hy427]; exact H) | exact H
   have Ny427 := o_ hy427
   clear hy427
   obtain rfl := Option.some.inj H
   have p425 : 0 ≤ (x3_1 : Int) := oa
   have q425 : x3_1 < (l0.length : Int) := oa
   obtain ⟨ad425, A425_6, c425_6, e425, hx425_0, hx425_1, hx425_2, hx425_3, hx425_4, hx425_5, hx425_6, hl425_6, hi425_6⟩ := aT (Kd.V_reads' HO_0.out).2.2 x3_1 p425 q425
   cases e425
   obtain ⟨ce425, hce425, hMe425, hcc425⟩ := Kd.V_get HO_0.out z33 x3_1 p425 (by first | exact q425 | exact oa | (have e_ := (Kd.V_reads' HO_0.out).1; omega))
   obtain ⟨ua425_6, uc425_6, rfl, ul425_6, ge425_6⟩ := k33_openF hMe425
   have hv425_6 := hcc425 6 _ rfl
   rw [add_field _ _ 6 (by omega)] at hv425_6
   replace hv425_6 := Option.some.inj (hv425_6.symm.trans hx425_6)
   injection hv425_6 with hva_ hvn_ hvc_
   rw [hva_] at ge425_6
   rw [hvc_] at ul425_6
   have HL425_6 := o_ (show Kd.V (Kd.int .i64) 3 _ w.heap.size _ _ ((rT l0 x3_1).f6) from Kd.V_mk ul425_6 ge425_6)
   clear hva_ hvn_ hvc_ ge425_6 ul425_6
   clear hcc425 hce425
   have HR425_6 := o_ hi425_6
   have HC425_6 := o_ hl425_6
   clear hi425_6 hl425_6
   replace p425 := eq_true p425
   replace q425 := eq_true q425
   go_wp2_with (first | (go_at_call 22; (with_reducible refine (r_Blank.calls ((rT l0 x3_1).f0) ((rT l0 x3_1).f1) ((rT l0 x3_1).f2) ((rT l0 x3_1).f3) ((rT l0 x3_1).f4) ((rT l0 x3_1).f5) _ _ ((rT l0 x3_1).f6) false _ ?side1 ?side2 A4.out).mono ?_); (case side1 => repeat (first | exact (by repeat (first | (with_reducible exact HR425_6.out) | (with_reducible refine Kd.C_alloc ?_ _) | (with_reducible refine Kd.C_drewN ?_ _) | (with_reducible refine Kd.C_drew ?_) | exact HR425_6.out)) | (with_reducible refine Kd.C_alloc ?_ _) | (with_reducible refine Kd.C_drewN ?_ _) | (with_reducible refine Kd.C_drew ?_))); (case side2 => exact HC425_6.out); rintro e w9 ⟨rfl, hb⟩; have n0_ := o_ (Kd.V_below (Vu HO_0) hb); have n1_ := o_ (Kd.V_below (Vu HL425_6) hb); have n2_ := o_ (Kd.C_below (by repeat (first | (with_reducible exact HR425_6.out) | (with_reducible refine Kd.C_alloc ?_ _) | (with_reducible refine Kd.C_drewN ?_ _) | (with_reducible refine Kd.C_drew ?_) | exact HR425_6.out)) hb); have n3_ := o_ (below_step (bl HB) hb); clear HO_0; clear HL425_6; clear HR425_6; clear HB; have HO_0 := n0_; have HL425_6 := n1_; have HR425_6 := n2_; have HB := n3_; clear n0_ n1_ n2_ n3_; (try clear hb); have q10 : (x3_1 : Int) ≤ ((l0.length : Int) : Int) := oa; obtain ⟨i010, hi010, _, hsz10, _⟩ := info_parts info33; have hroom10 : l0.length ≤ c0 := (Kd.V_reads' HO_0.out).2.1; have hC10 : Kd.F k33 _ _ (some ad425) l0.length l0 := (Kd.V_at (base := w.heap.size) HO_0.out).2.2; have q010 : (0 : Int) ≤ (x3_1 : Int) := oa; have hcut10 := cut_from (P := Try.prog) 23 33 .i64 Try.underlying23 hi010 7 hsz10 (some ad425) l0.length c0 x3_1 q010 q10; have hr10 := Kd.F_cut (m := (x3_1 : Int).toNat) (c := c0) hC10 (by omega) hroom10; obtain ⟨A10, hA10⟩ : ∃ A1, A1 = (if c0 = (x3_1 : Int).toNat then (some ad425) else ((some ad425) : Option Addr).map (·.add ((x3_1 : Int).toNat * 7))) := ⟨_, rfl⟩; obtain ⟨c10, hc10⟩ : ∃ c1, c1 = c0 - (x3_1 : Int).toNat := ⟨_, rfl⟩; have hy10 : y427.length = l0.length - (x3_1 : Int).toNat := (by rw [Ny427.out, List.length_drop] <;> omega); rw [show (l0).drop (x3_1 : Int).toNat = y427 from Ny427.out.symm] at hr10; replace hr10 : Kd.F k33 _ _ A10 y427.length y427 := (by rw [hA10]; exact hr10); rw [← hy10, ← hA10, ← hc10] at hcut10; have HO431 := o_ (show Kd.V k33 33 _ w.heap.size _ (.slice A10 y427.length c10) y427 from Kd.V_mk (by rw [hy10, hc10]; exact Nat.sub_le_sub_right hroom10 _) hr10); have HC431 := o_ (show y427.length ≤ c10 from by rw [hy10, hc10]; exact Nat.sub_le_sub_right hroom10 _); clear hr10 hC10 hroom10 hi010 hsz10 hc10; have KY10 := o_ hy10; have KA10 := o_ hA10; clear hy10 hA10; replace q10 := eq_true q10))
   go_ret
   exact ⟨_, by first | rfl | (simp [*] <;> rfl), Vu HO431, bl HB⟩
def s_IsName.l0 : Nat → ByteArray → Int → Option (Bool)
 | 0, _, _ => none
 | k + 1, x0, x3 => if x3 < (x0.size : Int) then (if 0 ≤ x3 then (if (bt x0 x3) < 33 then (some false) else (if (bt x0 x3) > 126 then (some false) else (s_IsName.l0 k x0 (wrap64 (x3 + 1))))) else (none)) else (if (x0.size : Int) ≥ 1 then (some (decide ((x0.size : Int) ≤ 10))) else (some false))
def s_IsName.f (k : Nat) (a0 : ByteArray) : Option (Bool) := s_IsName.l0 k a0 0
theorem s_IsName.calls (k : Nat) (a0 : ByteArray) (r : Bool) (w : World) (h : s_IsName.f k a0 = some r) :
  Calls Try.prog 86 #[.string a0] w fun e w' => e = .returned (.bool r) ∧ Drawn0 w w' := by
 have H : (s_IsName.l0 k a0 0) = some r := h
 clear h
 have H' := o_ H
 clear H
 go_enter Try.func86, Try.ntmps86
 go_wp2
 go_loopg [3] k (fun kq v3 w' => ∃ (x3_1 : Int), v3 = .int .i64 x3_1 ∧ As (s_IsName.l0 kq a0 x3_1 = some r) ∧ As (kq ≤ k) ∧ Drawn0 w w')
 case atStart => exact ⟨(0), (by first | rfl | simp [*]), H', ⟨Nat.le_refl _⟩, by repeat (first | exact Drawn0.refl _ | apply Drawn0.step)⟩
 case round =>
  clear H'
  obtain ⟨x3_1, rfl, HA, HK1, ⟨m1, rfl⟩⟩ := hrel
  cases gk with
  | zero => exact absurd HA.out (by simp [s_IsName.l0])
  | succ k1 =>
   have H := HA.out
   clear HA
   simp only [s_IsName.l0] at H
   by_cases c2 : x3_1 < (a0.size : Int)
   rotate_left
   ·rw [if_neg c2] at H
    have c2b0 := decide_eq_false c2
    clear c2
    by_cases c8 : (a0.size : Int) ≥ 1
    ·rw [if_pos c8] at H
     have c8b0 : decide (1 ≤ (a0.size : Int)) = true := decide_eq_true c8
     have c8b1 : decide (1 ≤ a0.size) = true := decide_eq_true (by omega)
     clear c8
     obtain rfl := Option.some.inj H
     go_wp2
     go_ret
     exact ⟨by first | rfl | (simp; done) | (simp [*]; done), by repeat (first | exact Drawn0.refl _ | apply Drawn0.step)⟩
    rw [if_neg c8] at H
    have c8b0 : decide (1 ≤ (a0.size : Int)) = false := decide_eq_false c8
    have c8b1 : decide (1 ≤ a0.size) = false := decide_eq_false (by omega)
    clear c8
    obtain rfl := Option.some.inj H
    go_wp2
    go_ret
    exact ⟨by first | rfl | (simp; done) | (simp [*]; done), by repeat (first | exact Drawn0.refl _ | apply Drawn0.step)⟩
   rw [if_pos c2] at H
   have c2b0 := decide_eq_true c2
   clear c2
   by_cases c3 : 0 ≤ x3_1
   rotate_left
   ·rw [if_neg c3] at H
    exact absurd H (by simp)
   rw [if_pos c3] at H
   have c3b0 := decide_eq_true c3
   clear c3
   by_cases c5 : (bt a0 x3_1) < 33
   ·rw [if_pos c5] at H
    have c5b0 := decide_eq_true c5
    clear c5
    obtain rfl := Option.some.inj H
    have p4 : 0 ≤ (x3_1 : Int) := oa
    have q4 : x3_1 < (a0.size : Int) := oa
    have hx4 := bt_at a0 x3_1
    replace p4 := eq_true p4
    replace q4 := eq_true q4
    go_wp2
    go_ret
    exact ⟨by first | rfl | (simp; done) | (simp [*]; done), by repeat (first | exact Drawn0.refl _ | apply Drawn0.step)⟩
   rw [if_neg c5] at H
   have c5b0 := decide_eq_false c5
   clear c5
   by_cases c7 : (bt a0 x3_1) > 126
   ·rw [if_pos c7] at H
    have c7b0 : decide (126 < (bt a0 x3_1)) = true := decide_eq_true c7
    clear c7
    obtain rfl := Option.some.inj H
    have p4 : 0 ≤ (x3_1 : Int) := oa
    have q4 : x3_1 < (a0.size : Int) := oa
    have hx4 := bt_at a0 x3_1
    replace p4 := eq_true p4
    replace q4 := eq_true q4
    have p6 : 0 ≤ (x3_1 : Int) := oa
    have q6 : x3_1 < (a0.size : Int) := oa
    have hx6 := bt_at a0 x3_1
    replace p6 := eq_true p6
    replace q6 := eq_true q6
    go_wp2
    go_ret
    exact ⟨by first | rfl | (simp; done) | (simp [*]; done), by repeat (first | exact Drawn0.refl _ | apply Drawn0.step)⟩
   rw [if_neg c7] at H
   have c7b0 : decide (126 < (bt a0 x3_1)) = false := decide_eq_false c7
   clear c7
   have H' := o_ H
   clear H
   have p4 : 0 ≤ (x3_1 : Int) := oa
   have q4 : x3_1 < (a0.size : Int) := oa
   have hx4 := bt_at a0 x3_1
   replace p4 := eq_true p4
   replace q4 := eq_true q4
   have p6 : 0 ≤ (x3_1 : Int) := oa
   have q6 : x3_1 < (a0.size : Int) := oa
   have hx6 := bt_at a0 x3_1
   replace p6 := eq_true p6
   replace q6 := eq_true q6
   go_wp2
   go_roundg k1
   case measure => have := HK1.out; omega
   case rel => exact ⟨(wrap64 (x3_1 + 1)), (by first | rfl | simp [*]), H', ⟨by have := HK1.out; omega⟩, by repeat (first | exact Drawn0.refl _ | apply Drawn0.step)⟩
def s_colour.l0 : Nat → ByteArray → Int → Option (Bool)
 | 0, _, _ => none
 | k + 1, x0, x3 => if x3 < (x0.size : Int) then (if 0 ≤ x3 then (if (bt x0 x3) < 33 then (some false) else (if (bt x0 x3) > 126 then (some false) else (s_colour.l0 k x0 (wrap64 (x3 + 1))))) else (none)) else (some (decide ((x0.size : Int) ≤ 20)))
def s_colour.f (k : Nat) (a0 : ByteArray) : Option (Bool) := s_colour.l0 k a0 0
theorem s_colour.calls (k : Nat) (a0 : ByteArray) (r : Bool) (w : World) (h : s_colour.f k a0 = some r) :
  Calls Try.prog 87 #[.string a0] w fun e w' => e = .returned (.bool r) ∧ Drawn0 w w' := by
 have H : (s_colour.l0 k a0 0) = some r := h
 clear h
 have H' := o_ H
 clear H
 go_enter Try.func87, Try.ntmps87
 go_wp2
 go_loopg [3] k (fun kq v3 w' => ∃ (x3_1 : Int), v3 = .int .i64 x3_1 ∧ As (s_colour.l0 kq a0 x3_1 = some r) ∧ As (kq ≤ k) ∧ Drawn0 w w')
 case atStart => exact ⟨(0), (by first | rfl | simp [*]), H', ⟨Nat.le_refl _⟩, by repeat (first | exact Drawn0.refl _ | apply Drawn0.step)⟩
 case round =>
  clear H'
  obtain ⟨x3_1, rfl, HA, HK1, ⟨m1, rfl⟩⟩ := hrel
  cases gk with
  | zero => exact absurd HA.out (by simp [s_colour.l0])
  | succ k1 =>
   have H := HA.out
   clear HA
   simp only [s_colour.l0] at H
   by_cases c2 : x3_1 < (a0.size : Int)
   rotate_left
   ·rw [if_neg c2] at H
    have c2b0 := decide_eq_false c2
    clear c2
    obtain rfl := Option.some.inj H
    go_wp2
    go_ret
    exact ⟨by first | rfl | (simp; done) | (simp [*]; done), by repeat (first | exact Drawn0.refl _ | apply Drawn0.step)⟩
   rw [if_pos c2] at H
   have c2b0 := decide_eq_true c2
   clear c2
   by_cases c3 : 0 ≤ x3_1
   rotate_left
   ·rw [if_neg c3] at H
    exact absurd H (by simp)
   rw [if_pos c3] at H
   have c3b0 := decide_eq_true c3
   clear c3
   by_cases c5 : (bt a0 x3_1) < 33
   ·rw [if_pos c5] at H
    have c5b0 := decide_eq_true c5
    clear c5
    obtain rfl := Option.some.inj H
    have p4 : 0 ≤ (x3_1 : Int) := oa
    have q4 : x3_1 < (a0.size : Int) := oa
    have hx4 := bt_at a0 x3_1
    replace p4 := eq_true p4
    replace q4 := eq_true q4
    go_wp2
    go_ret
    exact ⟨by first | rfl | (simp; done) | (simp [*]; done), by repeat (first | exact Drawn0.refl _ | apply Drawn0.step)⟩
   rw [if_neg c5] at H
   have c5b0 := decide_eq_false c5
   clear c5
   by_cases c7 : (bt a0 x3_1) > 126
   ·rw [if_pos c7] at H
    have c7b0 : decide (126 < (bt a0 x3_1)) = true := decide_eq_true c7
    clear c7
    obtain rfl := Option.some.inj H
    have p4 : 0 ≤ (x3_1 : Int) := oa
    have q4 : x3_1 < (a0.size : Int) := oa
    have hx4 := bt_at a0 x3_1
    replace p4 := eq_true p4
    replace q4 := eq_true q4
    have p6 : 0 ≤ (x3_1 : Int) := oa
    have q6 : x3_1 < (a0.size : Int) := oa
    have hx6 := bt_at a0 x3_1
    replace p6 := eq_true p6
    replace q6 := eq_true q6
    go_wp2
    go_ret
    exact ⟨by first | rfl | (simp; done) | (simp [*]; done), by repeat (first | exact Drawn0.refl _ | apply Drawn0.step)⟩
   rw [if_neg c7] at H
   have c7b0 : decide (126 < (bt a0 x3_1)) = false := decide_eq_false c7
   clear c7
   have H' := o_ H
   clear H
   have p4 : 0 ≤ (x3_1 : Int) := oa
   have q4 : x3_1 < (a0.size : Int) := oa
   have hx4 := bt_at a0 x3_1
   replace p4 := eq_true p4
   replace q4 := eq_true q4
   have p6 : 0 ≤ (x3_1 : Int) := oa
   have q6 : x3_1 < (a0.size : Int) := oa
   have hx6 := bt_at a0 x3_1
   replace p6 := eq_true p6
   replace q6 := eq_true q6
   go_wp2
   go_roundg k1
   case measure => have := HK1.out; omega
   case rel => exact ⟨(wrap64 (x3_1 + 1)), (by first | rfl | simp [*]), H', ⟨by have := HK1.out; omega⟩, by repeat (first | exact Drawn0.refl _ | apply Drawn0.step)⟩
end Go.Proofs.Yteadghhmoggjnaa.Q
end
