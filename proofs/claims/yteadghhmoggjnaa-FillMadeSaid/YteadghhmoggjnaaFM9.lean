import Derived.Test.YteadghhmoggjnaaFM8
set_option linter.unusedVariables false
set_option linter.unusedSimpArgs false
section
section
namespace Go.Proofs.Yteadghhmoggjnaa.Q
open Go.RowKit YteadghhmoggjnaaW.PrintWords YteadghhmoggjnaaW.PrintLast YteadghhmoggjnaaW.PrintMore
attribute [local go_sem] max2_int max_two
set_option maxHeartbeats 8000000
set_option maxRecDepth 100000
mutual
def w_Row.l0 : Nat → List Int → List (S33) → Int → Option ((List (S33)))
 | 0, _, _, _ => none
 | k + 1, x0, x3, x4 => if x4 < (x0.length : Int) then (w_Row.j1 k x0 x3 x4 (decide (x4 < 120))) else (w_Row.j1 k x0 x3 x4 false)
def w_Row.j1 : Nat → List Int → List (S33) → Int → Bool → Option ((List (S33)))
 | 0, _, _, _, _ => none
 | k + 1, x0, x3, x4, x13 => if x13 = true then (if 0 ≤ x4 then (if x4 < (x0.length : Int) then (if (Int.tmod (wrap64 (Int.tmod (IntKind.u64.wrap (rd x0 x4)) 100000)) 12) = 0 then (w_Row.j2 k x0 x3 x4 (wrap64 (Int.tmod (IntKind.u64.wrap (rd x0 x4)) 100000)) (Int.tmod (wrap64 (Int.tmod (IntKind.u64.wrap (rd x0 x4)) 100000)) 12) ((Int.tmod (wrap64 (Int.tmod (IntKind.u64.wrap (rd x0 x4)) 100000)) 12) == 0)) else (if (Int.tmod (wrap64 (Int.tmod (IntKind.u64.wrap (rd x0 x4)) 100000)) 12) = 1 then (w_Row.j2 k x0 x3 x4 (wrap64 (Int.tmod (IntKind.u64.wrap (rd x0 x4)) 100000)) (Int.tmod (wrap64 (Int.tmod (IntKind.u64.wrap (rd x0 x4)) 100000)) 12) ((Int.tmod (wrap64 (Int.tmod (IntKind.u64.wrap (rd x0 x4)) 100000)) 12) == 1)) else (w_Row.j2 k x0 x3 x4 (wrap64 (Int.tmod (IntKind.u64.wrap (rd x0 x4)) 100000)) (Int.tmod (wrap64 (Int.tmod (IntKind.u64.wrap (rd x0 x4)) 100000)) 12) ((Int.tmod (wrap64 (Int.tmod (IntKind.u64.wrap (rd x0 x4)) 100000)) 12) == 2)))) else (none)) else (none)) else (some x3)
def w_Row.j2 : Nat → List Int → List (S33) → Int → Int → Int → Bool → Option ((List (S33)))
 | 0, _, _, _, _, _, _ => none
 | k + 1, x0, x3, x4, x5, x24, x41 => if x41 = true then ((w_blank.f (Int.tmod (wrap64 (Int.tdiv x5 12)) 20)).bind fun bt103 => (if x3.length < 1599289640401 then (w_Row.l0 k x0 (x3 ++ [(⟨bt103.1, bt103.2.1, bt103.2.2.1, bt103.2.2.2.1, bt103.2.2.2.2.1, bt103.2.2.2.2.2.1, bt103.2.2.2.2.2.2⟩ : S33)]) (wrap64 (x4 + 1))) else (none))) else (if x24 = 3 then (w_Row.j3 k x0 x3 x4 x5 x24 (x24 == 3)) else (w_Row.j3 k x0 x3 x4 x5 x24 (x24 == 4)))
def w_Row.j3 : Nat → List Int → List (S33) → Int → Int → Int → Bool → Option ((List (S33)))
 | 0, _, _, _, _, _, _ => none
 | k + 1, x0, x3, x4, x5, x24, x52 => if x52 = true then (if x3.length < 1599289640401 then (w_Row.l0 k x0 (x3 ++ [(⟨5, 0, 0, 0, (⟨#[]⟩ : ByteArray), (⟨#[]⟩ : ByteArray), ([] : List Int)⟩ : S33)]) (wrap64 (x4 + 1))) else (none)) else (if x24 = 5 then (if x3.length < 1599289640401 then (w_Row.l0 k x0 (x3 ++ [(⟨1, 5, 0, 10, (⟨#[126]⟩ : ByteArray), (⟨#[]⟩ : ByteArray), ([] : List Int)⟩ : S33)]) (wrap64 (x4 + 1))) else (none)) else (if x24 = 6 then (if x3.length < 1599289640401 then (w_Row.l0 k x0 (x3 ++ [(⟨2, wrap64 ((Int.tmod (wrap64 (Int.tdiv x5 12)) 31) - 15), 0, 0, (⟨#[]⟩ : ByteArray), (⟨#[]⟩ : ByteArray), ([] : List Int)⟩ : S33)]) (wrap64 (x4 + 1))) else (none)) else (if x24 = 7 then (if x3.length < 1599289640401 then (w_Row.l0 k x0 (x3 ++ [(⟨6, Int.tmod (wrap64 (Int.tdiv x5 12)) 10, 0, 0, (⟨#[]⟩ : ByteArray), (⟨#[]⟩ : ByteArray), ([] : List Int)⟩ : S33)]) (wrap64 (x4 + 1))) else (none)) else (if 0 ≤ (Int.tmod (wrap64 (Int.tdiv x5 12)) 8) then (if (Int.tmod (wrap64 (Int.tdiv x5 12)) 8) ≤ (wrap64 ((Int.tmod (wrap64 (Int.tdiv x5 12)) 8) + 1)) then (if (wrap64 ((Int.tmod (wrap64 (Int.tdiv x5 12)) 8) + 1)) ≤ 8 then (if x3.length < 1599289640401 then (w_Row.l0 k x0 (x3 ++ [(⟨0, wrap64 (5 + (Int.tmod (wrap64 (Int.tdiv x5 12)) 12)), 0, 10, (⟨#[97, 98, 99, 100, 101, 102, 103, 104]⟩ : ByteArray).extract ((Int.tmod (wrap64 (Int.tdiv x5 12)) 8) : Int).toNat ((wrap64 ((Int.tmod (wrap64 (Int.tdiv x5 12)) 8) + 1)) : Int).toNat, (⟨#[]⟩ : ByteArray), ([] : List Int)⟩ : S33)]) (wrap64 (x4 + 1))) else (none)) else (none)) else (none)) else (none)))))
end
def w_Row.f (k : Nat) (l0 : List Int) : Option ((List (S33))) := w_Row.l0 k l0 ([] : List (S33)) 0
theorem w_Row.calls (k : Nat) (A0 : Option Addr) (c0 : Nat) (l0 : List Int) (r : List (S33)) (w : World) (hr0 : Kd.C (Kd.int .i64) w A0 l0.length l0) (hc0 : l0.length ≤ c0) (h : w_Row.f k l0 = some r) :
  Calls Try.prog 10 #[.slice A0 l0.length c0] w fun e w' => ∃ v0_ : Value, e = .returned (v0_) ∧ Kd.S k33 33 w' w.heap.size (fun _ => True) v0_ r ∧ Below w.heap.size w w' := by
 have hu33 := Try.underlying33
 have HR0 := o_ hr0
 have HC0 := o_ hc0
 clear hr0 hc0
 have HB := o_ (Below.refl w.heap.size w)
 have H : (w_Row.l0 k l0 ([] : List (S33)) 0) = some r := h
 clear h
 have H' := o_ H
 clear H
 go_enter Try.func10, Try.ntmps10
 go_wp2
 go_loopg [3, 4] k (fun kq v3 v4 w' => ∃ (x3_1 : List (S33)) (x4_1 : Int), v4 = .int .i64 x4_1 ∧ As (w_Row.l0 kq l0 x3_1 x4_1 = some r) ∧ As (kq ≤ k) ∧ As (Kd.S k33 33 w' w.heap.size (fun _ => True) v3 x3_1) ∧ As (Below w.heap.size w w'))
 case atStart => exact ⟨(([] : List (S33))), (0), (by first | rfl | simp [*]), H', ⟨Nat.le_refl _⟩, ⟨by first | exact Kd.S_nil _ _ _ _ _ | exact Kd.N_nil _ _ _ _ _ | exact Kd.V_nil _ _ _ _ _ | exact Kd.Q_nil _ _ _ _ _ | exact Kd.R_nil _ _ _ _ _⟩, ⟨bl HB⟩⟩
 case round =>
  clear H'
  obtain ⟨x3_1, x4_1, rfl, HA, HK1, HO_3, HB⟩ := hrel
  cases gk with
  | zero => exact absurd HA.out (by simp [w_Row.l0])
  | succ k1 =>
   have H := HA.out
   clear HA
   simp only [w_Row.l0] at H
   have HC2 := o_ H
   clear H
   go_upto_region 3 with (fail)
   go_cut [13] (fun v13 wc => ∃ (kq : Nat) (x13_1 : Bool), v13 = .bool x13_1 ∧ As (w_Row.j1 kq l0 x3_1 x4_1 x13_1 = some r) ∧ As (kq ≤ k1) ∧ As (Kd.S k33 33 wc w.heap.size (fun _ => True) u3 x3_1) ∧ As (Below w.heap.size w wc))
   case first =>
    have H := HC2.out
    clear HC2
    by_cases c3 : x4_1 < (l0.length : Int)
    ·rw [if_pos c3] at H
     have c3b0 := decide_eq_true c3
     clear c3
     (first | rw [c3b0] | (simp only [i64_w, i32_w]; rw [c3b0]) | skip)
     have H' := o_ H
     clear H
     go_wp2
     go_meet
     case rel => exact ⟨_, (decide (x4_1 < 120)), (by first | rfl | simp [*]), H', ⟨by have := HK1.out; first | omega | exact Nat.le_refl _⟩, ⟨Su HO_3⟩, ⟨bl HB⟩⟩
    rw [if_neg c3] at H
    have c3b0 := decide_eq_false c3
    clear c3
    (first | rw [c3b0] | (simp only [i64_w, i32_w]; rw [c3b0]) | skip)
    have H' := o_ H
    clear H
    go_wp2
    go_meet
    case rel => exact ⟨_, (false), (by first | rfl | simp [*]), H', ⟨by have := HK1.out; first | omega | exact Nat.le_refl _⟩, ⟨Su HO_3⟩, ⟨bl HB⟩⟩
   case rest =>
    clear HC2
    obtain ⟨kq, x13_1, rfl, HA, HJ1, HO_3, HB⟩ := hcut
    cases kq with
    | zero => exact absurd HA.out (by simp [w_Row.j1])
    | succ kj1 =>
     have H := HA.out
     clear HA
     simp only [w_Row.j1] at H
     by_cases c4 : x13_1 = true
     rotate_left
     ·replace c4 := Bool.eq_false_iff.mpr c4
      subst c4
      have H1 : (some x3_1) = some r := by rw [if_neg (show ¬ (false = true) by decide)] at H; exact H
      clear H
      have H := H1
      clear H1
      obtain rfl := Option.some.inj H
      go_wp2
      go_ret
      exact ⟨_, by first | rfl | (simp [*] <;> rfl), Su HO_3, bl HB⟩
     subst c4
     have H1 : (if 0 ≤ x4_1 then (if x4_1 < (l0.length : Int) then (if (Int.tmod (wrap64 (Int.tmod (IntKind.u64.wrap (rd l0 x4_1)) 100000)) 12) = 0 then (w_Row.j2 kj1 l0 x3_1 x4_1 (wrap64 (Int.tmod (IntKind.u64.wrap (rd l0 x4_1)) 100000)) (Int.tmod (wrap64 (Int.tmod (IntKind.u64.wrap (rd l0 x4_1)) 100000)) 12) ((Int.tmod (wrap64 (Int.tmod (IntKind.u64.wrap (rd l0 x4_1)) 100000)) 12) == 0)) else (if (Int.tmod (wrap64 (Int.tmod (IntKind.u64.wrap (rd l0 x4_1)) 100000)) 12) = 1 then (w_Row.j2 kj1 l0 x3_1 x4_1 (wrap64 (Int.tmod (IntKind.u64.wrap (rd l0 x4_1)) 100000)) (Int.tmod (wrap64 (Int.tmod (IntKind.u64.wrap (rd l0 x4_1)) 100000)) 12) ((Int.tmod (wrap64 (Int.tmod (IntKind.u64.wrap (rd l0 x4_1)) 100000)) 12) == 1)) else (w_Row.j2 kj1 l0 x3_1 x4_1 (wrap64 (Int.tmod (IntKind.u64.wrap (rd l0 x4_1)) 100000)) (Int.tmod (wrap64 (Int.tmod (IntKind.u64.wrap (rd l0 x4_1)) 100000)) 12) ((Int.tmod (wrap64 (Int.tmod (IntKind.u64.wrap (rd l0 x4_1)) 100000)) 12) == 2)))) else (none)) else (none)) = some r := by rw [if_pos rfl] at H; exact H
     clear H
     have H := H1
     clear H1
     by_cases c5 : 0 ≤ x4_1
     rotate_left
     ·rw [if_neg c5] at H
      exact absurd H (by simp)
     rw [if_pos c5] at H
     have c5b0 := decide_eq_true c5
     clear c5
     by_cases c6 : x4_1 < (l0.length : Int)
     rotate_left
     ·rw [if_neg c6] at H
      exact absurd H (by simp)
     rw [if_pos c6] at H
     have c6b0 := decide_eq_true c6
     clear c6
     have HC7 := o_ H
     clear H
     have p102 : 0 ≤ (x4_1 : Int) := oa
     have q102 : x4_1 < (l0.length : Int) := oa
     obtain ⟨ad102, e102, hx102_0⟩ := Kd.at_int HR0.out x4_1 p102 q102
     cases e102
     replace hx102_0 := ct HB hx102_0
     replace p102 := eq_true p102
     replace q102 := eq_true q102
     go_upto_if 41 with (fail)
     go_cut [41] (fun v41 wc => ∃ (kq : Nat) (x41_6 : Bool), v41 = .bool x41_6 ∧ As (w_Row.j2 kq l0 x3_1 x4_1 (wrap64 (Int.tmod (IntKind.u64.wrap (rd l0 x4_1)) 100000)) (Int.tmod (wrap64 (Int.tmod (IntKind.u64.wrap (rd l0 x4_1)) 100000)) 12) x41_6 = some r) ∧ As (kq ≤ kj1) ∧ As (Kd.S k33 33 wc w.heap.size (fun _ => True) u3 x3_1) ∧ As (Below w.heap.size w wc))
     case first =>
      have H := HC7.out
      clear HC7
      by_cases c8 : (Int.tmod (wrap64 (Int.tmod (IntKind.u64.wrap (rd l0 x4_1)) 100000)) 12) = 0
      ·rw [if_pos c8] at H
       have c8b0 : ((Int.tmod (wrap64 (Int.tmod (IntKind.u64.wrap (rd l0 x4_1)) 100000)) 12) == 0) = true := beq_iff_eq.mpr c8
       have c8b1 : ((Int.tmod (wrap64 (Int.tmod (IntKind.u64.wrap (rd l0 x4_1)) 100000)) 12) != 0) = false := bne_eq_false_iff_eq.mpr c8
       clear c8
       (first | rw [c8b0] | (simp only [i64_w, i32_w]; rw [c8b0]) | skip)
       have H' := o_ H
       clear H
       go_wp2
       go_meet
       case rel => exact ⟨_, (((Int.tmod (wrap64 (Int.tmod (IntKind.u64.wrap (rd l0 x4_1)) 100000)) 12) == 0)), (by first | rfl | simp [*]), H', ⟨by have := HK1.out; have := HJ1.out; first | omega | exact Nat.le_refl _⟩, ⟨Su HO_3⟩, ⟨bl HB⟩⟩
      rw [if_neg c8] at H
      have c8b0 : ((Int.tmod (wrap64 (Int.tmod (IntKind.u64.wrap (rd l0 x4_1)) 100000)) 12) == 0) = false := beq_eq_false_iff_ne.mpr c8
      have c8b1 : ((Int.tmod (wrap64 (Int.tmod (IntKind.u64.wrap (rd l0 x4_1)) 100000)) 12) != 0) = true := bne_iff_ne.mpr c8
      (first | rw [c8b0] | (simp only [i64_w, i32_w]; rw [c8b0]) | skip)
      by_cases c9 : (Int.tmod (wrap64 (Int.tmod (IntKind.u64.wrap (rd l0 x4_1)) 100000)) 12) = 1
      rotate_left
      ·rw [if_neg c9] at H
       have c9b0 : ((Int.tmod (wrap64 (Int.tmod (IntKind.u64.wrap (rd l0 x4_1)) 100000)) 12) == 1) = false := beq_eq_false_iff_ne.mpr c9
       have c9b1 : ((Int.tmod (wrap64 (Int.tmod (IntKind.u64.wrap (rd l0 x4_1)) 100000)) 12) != 1) = true := bne_iff_ne.mpr c9
       have H' := o_ H
       clear H
       go_wp2
       go_meet
       case rel => exact ⟨_, (((Int.tmod (wrap64 (Int.tmod (IntKind.u64.wrap (rd l0 x4_1)) 100000)) 12) == 2)), (by first | rfl | simp [*]), H', ⟨by have := HK1.out; have := HJ1.out; first | omega | exact Nat.le_refl _⟩, ⟨Su HO_3⟩, ⟨bl HB⟩⟩
      rw [if_pos c9] at H
      have c9b0 : ((Int.tmod (wrap64 (Int.tmod (IntKind.u64.wrap (rd l0 x4_1)) 100000)) 12) == 1) = true := beq_iff_eq.mpr c9
      have c9b1 : ((Int.tmod (wrap64 (Int.tmod (IntKind.u64.wrap (rd l0 x4_1)) 100000)) 12) != 1) = false := bne_eq_false_iff_eq.mpr c9
      clear c9
      have H' := o_ H
      clear H
      go_wp2
      go_meet
      case rel => exact ⟨_, (((Int.tmod (wrap64 (Int.tmod (IntKind.u64.wrap (rd l0 x4_1)) 100000)) 12) == 1)), (by first | rfl | simp [*]), H', ⟨by have := HK1.out; have := HJ1.out; first | omega | exact Nat.le_refl _⟩, ⟨Su HO_3⟩, ⟨bl HB⟩⟩
     case rest =>
      clear HC7
      try clear q1
      try clear hx1
      try clear hx102_0
      try clear q102
      obtain ⟨kq, x41_6, rfl, HA, HJ6, HO_3, HB⟩ := hcut
      cases kq with
      | zero => exact absurd HA.out (by simp [w_Row.j2])
      | succ kj6 =>
       have H := HA.out
       clear HA
       simp only [w_Row.j2] at H
       by_cases c10 : x41_6 = true
       ·subst c10
        have H1 : ((w_blank.f (Int.tmod (wrap64 (Int.tdiv (wrap64 (Int.tmod (IntKind.u64.wrap (rd l0 x4_1)) 100000)) 12)) 20)).bind fun bt103 => (if x3_1.length < 1599289640401 then (w_Row.l0 kj6 l0 (x3_1 ++ [(⟨bt103.1, bt103.2.1, bt103.2.2.1, bt103.2.2.2.1, bt103.2.2.2.2.1, bt103.2.2.2.2.2.1, bt103.2.2.2.2.2.2⟩ : S33)]) (wrap64 (x4_1 + 1))) else (none))) = some r := by rw [if_pos rfl] at H; exact H
        clear H
        have H := H1
        clear H1
        obtain ⟨⟨t103, t104, t105, t106, t107, t108, t109⟩, A110, H⟩ := qb H
        try dsimp only at H
        have A11 := o_ A110
        clear A110
        by_cases c12 : x3_1.length < 1599289640401
        rotate_left
        ·rw [if_neg c12] at H
         exact absurd H (by simp)
        rw [if_pos c12] at H
        have LMc12 := o_ c12
        clear c12
        obtain ⟨y112, hy112⟩ : ∃ y_ : List (S33), y_ = (x3_1 ++ [(⟨t103, t104, t105, t106, t107, t108, t109⟩ : S33)]) := ⟨_, rfl⟩
        replace H : (w_Row.l0 kj6 l0 y112 (wrap64 (x4_1 + 1))) = some r := by first | (rw [hy112]; with_reducible exact H) | (have H2_ := (Option.bind_some _ _).symm.trans H; rw [hy112]; with_reducible exact H2_) | (have H2_ := (Option.bind_some _ _).symm.trans H; with_reducible exact H2_) | with_reducible exact H | (rw [hy112]; exact H) | exact H
        have Ny112 := o_ hy112
        clear hy112
        have H' := o_ H
        clear H
        go_wp2_with (first | (go_at_call 18; (with_reducible refine (w_blank.calls (Int.tmod (wrap64 (Int.tdiv (wrap64 (Int.tmod (IntKind.u64.wrap (rd l0 x4_1)) 100000)) 12)) 20) t103 t104 t105 t106 t107 t108 t109 _ A11.out).mono ?_); rintro e w13 ⟨v110, rfl, ho0, hb⟩; have n0_ := o_ (Kd.S_elder' (Su HO_3) (Kd.R_base ho0) hb); have n1_ := o_ (Kd.R_lower ho0 (below_size (bl HB))); have n2_ := o_ (below_step (bl HB) hb); clear HO_3; clear HB; have HO_3 := n0_; have HO111 := n1_; have HB := n2_; clear n0_ n1_ n2_; (try clear hb); (try clear ho0); obtain ⟨Ao15, co15, eo15⟩ := Kd.R_slice HO111.out; subst eo15) | ((with_reducible refine gate_builtin (b := .append) (xs := #[.tmp 45, .tmp 50]) rfl ?_); at_builtin; refine Kd.S_append k33 (w0 := w) w.heap.size rfl (.tmp 45) (.tmp 50) 23 33 (.agg #[(.int .i64 0), (.int .i64 0), (.int .i64 0), (.int .i64 0), (.string ⟨#[]⟩), (.string ⟨#[]⟩), (.slice none 0 0)]) 88 rfl Try.underlying23 info33 rfl (by decide) (by omega) u3 x3_1 (⟨t103, t104, t105, t106, t107, t108, t109⟩ : S33) [.int .i64 t103, .int .i64 t104, .int .i64 t105, .int .i64 t106, .string t107, .string t108, .slice Ao15 t109.length co15] (fun _ => True) (fun k_ => some k_ = (.slice Ao15 t109.length co15 : Value).ownBlock) rfl rfl ?aP (fun k_ hk_ => ((Kd.R_mono (ok' := fun k_ => ((fun _ => True)) k_ ∧ some k_ ≠ (u3 : Value).ownBlock) (Kd.R_apart' (HO111.out) (Kd.S_typed HO_3.out) (by decide)) (fun k_ hk => ⟨trivial, hk.2⟩))).1 k_ hk_.symm) ?aF ?aO ?aB ?aS ?aL ?_; (case aP => exact k33_mkM _ _ _ (⟨t103, t104, t105, t106, t107, t108, t109⟩ : S33) (Kd.R_mono (Kd.R_tight rfl (Kd.R_mono (ok' := fun k_ => ((fun _ => True)) k_ ∧ some k_ ≠ (u3 : Value).ownBlock) (Kd.R_apart' (HO111.out) (Kd.S_typed HO_3.out) (by decide)) (fun k_ hk => ⟨trivial, hk.2⟩))) (fun _ h_ => h_))); (case aB => exact (bl HB)); (case aF => exact (fun _ _ => trivial)); (case aO => exact (by (with_reducible repeat (first | apply Kd.S_alloc | apply Kd.S_drewN | apply Kd.S_drew)); exact Kd.S_mono HO_3.out (fun k_ hk => ⟨trivial, fun e_ => hk.2 e_⟩))); (case aS => exact (below_size (bl HB))); (case aL => have := LMc12.out; omega); intro v113 w14 ho hb hg hat; rw [← Ny112.out] at ho; have n0_ := o_ (hb); have n1_ := o_ (ho); clear HB; clear HO_3; clear HO111; have HB := n0_; have HO114 := n1_; clear n0_ n1_; clear ho hb hg hat))
        go_roundg kj6
        case measure => have := HK1.out; have := HJ1.out; have := HJ6.out; omega
        case rel => exact ⟨(y112), (wrap64 (x4_1 + 1)), (by first | rfl | simp [*]), H', ⟨by have := HK1.out; have := HJ1.out; have := HJ6.out; omega⟩, ⟨Su HO114⟩, ⟨bl HB⟩⟩
       replace c10 := Bool.eq_false_iff.mpr c10
       subst c10
       have H1 : (if (Int.tmod (wrap64 (Int.tmod (IntKind.u64.wrap (rd l0 x4_1)) 100000)) 12) = 3 then (w_Row.j3 kj6 l0 x3_1 x4_1 (wrap64 (Int.tmod (IntKind.u64.wrap (rd l0 x4_1)) 100000)) (Int.tmod (wrap64 (Int.tmod (IntKind.u64.wrap (rd l0 x4_1)) 100000)) 12) ((Int.tmod (wrap64 (Int.tmod (IntKind.u64.wrap (rd l0 x4_1)) 100000)) 12) == 3)) else (w_Row.j3 kj6 l0 x3_1 x4_1 (wrap64 (Int.tmod (IntKind.u64.wrap (rd l0 x4_1)) 100000)) (Int.tmod (wrap64 (Int.tmod (IntKind.u64.wrap (rd l0 x4_1)) 100000)) 12) ((Int.tmod (wrap64 (Int.tmod (IntKind.u64.wrap (rd l0 x4_1)) 100000)) 12) == 4))) = some r := by rw [if_neg (show ¬ (false = true) by decide)] at H; exact H
       clear H
       have H := H1
       clear H1
       have HC16 := o_ H
       clear H
       go_upto_if 52 with (fail)
       go_cut [52] (fun v52 wc => ∃ (kq : Nat) (x52_15 : Bool), v52 = .bool x52_15 ∧ As (w_Row.j3 kq l0 x3_1 x4_1 (wrap64 (Int.tmod (IntKind.u64.wrap (rd l0 x4_1)) 100000)) (Int.tmod (wrap64 (Int.tmod (IntKind.u64.wrap (rd l0 x4_1)) 100000)) 12) x52_15 = some r) ∧ As (kq ≤ kj6) ∧ As (Kd.S k33 33 wc w.heap.size (fun _ => True) u3 x3_1) ∧ As (Below w.heap.size w wc))
       case first =>
        have H := HC16.out
        clear HC16
        by_cases c17 : (Int.tmod (wrap64 (Int.tmod (IntKind.u64.wrap (rd l0 x4_1)) 100000)) 12) = 3
        rotate_left
        ·rw [if_neg c17] at H
         have c17b0 : ((Int.tmod (wrap64 (Int.tmod (IntKind.u64.wrap (rd l0 x4_1)) 100000)) 12) == 3) = false := beq_eq_false_iff_ne.mpr c17
         have c17b1 : ((Int.tmod (wrap64 (Int.tmod (IntKind.u64.wrap (rd l0 x4_1)) 100000)) 12) != 3) = true := bne_iff_ne.mpr c17
         (first | rw [c17b0] | (simp only [i64_w, i32_w]; rw [c17b0]) | skip)
         have H' := o_ H
         clear H
         go_wp2
         go_meet
         case rel => exact ⟨_, (((Int.tmod (wrap64 (Int.tmod (IntKind.u64.wrap (rd l0 x4_1)) 100000)) 12) == 4)), (by first | rfl | simp [*]), H', ⟨by have := HK1.out; have := HJ1.out; have := HJ6.out; first | omega | exact Nat.le_refl _⟩, ⟨Su HO_3⟩, ⟨bl HB⟩⟩
        rw [if_pos c17] at H
        have c17b0 : ((Int.tmod (wrap64 (Int.tmod (IntKind.u64.wrap (rd l0 x4_1)) 100000)) 12) == 3) = true := beq_iff_eq.mpr c17
        have c17b1 : ((Int.tmod (wrap64 (Int.tmod (IntKind.u64.wrap (rd l0 x4_1)) 100000)) 12) != 3) = false := bne_eq_false_iff_eq.mpr c17
        clear c17
        (first | rw [c17b0] | (simp only [i64_w, i32_w]; rw [c17b0]) | skip)
        have H' := o_ H
        clear H
        go_wp2
        go_meet
        case rel => exact ⟨_, (((Int.tmod (wrap64 (Int.tmod (IntKind.u64.wrap (rd l0 x4_1)) 100000)) 12) == 3)), (by first | rfl | simp [*]), H', ⟨by have := HK1.out; have := HJ1.out; have := HJ6.out; first | omega | exact Nat.le_refl _⟩, ⟨Su HO_3⟩, ⟨bl HB⟩⟩
       case rest =>
        clear HC16
        try clear q1
        try clear hx1
        try clear q10
        try clear hx10
        try clear hx102_0
        try clear q1
        try clear q102
        obtain ⟨kq, x52_15, rfl, HA, HJ15, HO_3, HB⟩ := hcut
        cases kq with
        | zero => exact absurd HA.out (by simp [w_Row.j3])
        | succ kj15 =>
         have H := HA.out
         clear HA
         simp only [w_Row.j3] at H
         by_cases c18 : x52_15 = true
         ·subst c18
          have H1 : (if x3_1.length < 1599289640401 then (w_Row.l0 kj15 l0 (x3_1 ++ [(⟨5, 0, 0, 0, (⟨#[]⟩ : ByteArray), (⟨#[]⟩ : ByteArray), ([] : List Int)⟩ : S33)]) (wrap64 (x4_1 + 1))) else (none)) = some r := by rw [if_pos rfl] at H; exact H
          clear H
          have H := H1
          clear H1
          by_cases c19 : x3_1.length < 1599289640401
          rotate_left
          ·rw [if_neg c19] at H
           exact absurd H (by simp)
          rw [if_pos c19] at H
          have LMc19 := o_ c19
          clear c19
          obtain ⟨y115, hy115⟩ : ∃ y_ : List (S33), y_ = (x3_1 ++ [(⟨5, 0, 0, 0, (⟨#[]⟩ : ByteArray), (⟨#[]⟩ : ByteArray), ([] : List Int)⟩ : S33)]) := ⟨_, rfl⟩
          replace H : (w_Row.l0 kj15 l0 y115 (wrap64 (x4_1 + 1))) = some r := by first | (rw [hy115]; with_reducible exact H) | (have H2_ := (Option.bind_some _ _).symm.trans H; rw [hy115]; with_reducible exact H2_) | (have H2_ := (Option.bind_some _ _).symm.trans H; with_reducible exact H2_) | with_reducible exact H | (rw [hy115]; exact H) | exact H
          have Ny115 := o_ hy115
          clear hy115
          have H' := o_ H
          clear H
          go_wp2_with (first | ((with_reducible refine gate_builtin (b := .append) (xs := #[.tmp 55, .tmp 57]) rfl ?_); at_builtin; refine Kd.S_append k33 (w0 := w) w.heap.size rfl (.tmp 55) (.tmp 57) 23 33 (.agg #[(.int .i64 0), (.int .i64 0), (.int .i64 0), (.int .i64 0), (.string ⟨#[]⟩), (.string ⟨#[]⟩), (.slice none 0 0)]) 88 rfl Try.underlying23 info33 rfl (by decide) (by omega) u3 x3_1 (⟨5, 0, 0, 0, (⟨#[]⟩ : ByteArray), (⟨#[]⟩ : ByteArray), ([] : List Int)⟩ : S33) [.int .i64 5, .int .i64 0, .int .i64 0, .int .i64 0, .string ⟨#[]⟩, .string ⟨#[]⟩, .slice none 0 0] (fun _ => True) (fun _ => False) rfl rfl ?aP (fun k_ hk_ => hk_.elim) ?aF ?aO ?aB ?aS ?aL ?_; (case aP => exact k33_mkM _ _ _ (⟨5, 0, 0, 0, (⟨#[]⟩ : ByteArray), (⟨#[]⟩ : ByteArray), ([] : List Int)⟩ : S33) (Kd.R_nil _ _ _ _ _)); (case aB => exact (bl HB)); (case aF => exact (fun _ _ => trivial)); (case aO => exact (by (with_reducible repeat (first | apply Kd.S_alloc | apply Kd.S_drewN | apply Kd.S_drew)); exact Kd.S_mono HO_3.out (fun k_ hk => ⟨trivial, fun e_ => e_⟩))); (case aS => exact (below_size (bl HB))); (case aL => have := LMc19.out; omega); intro v116 w20 ho hb hg hat; rw [← Ny115.out] at ho; have n0_ := o_ (hb); have n1_ := o_ (ho); clear HB; clear HO_3; have HB := n0_; have HO117 := n1_; clear n0_ n1_; clear ho hb hg hat))
          go_roundg kj15
          case measure => have := HK1.out; have := HJ1.out; have := HJ6.out; have := HJ15.out; omega
          case rel => exact ⟨(y115), (wrap64 (x4_1 + 1)), (by first | rfl | simp [*]), H', ⟨by have := HK1.out; have := HJ1.out; have := HJ6.out; have := HJ15.out; omega⟩, ⟨Su HO117⟩, ⟨bl HB⟩⟩
         replace c18 := Bool.eq_false_iff.mpr c18
         subst c18
         have H1 : (if (Int.tmod (wrap64 (Int.tmod (IntKind.u64.wrap (rd l0 x4_1)) 100000)) 12) = 5 then (if x3_1.length < 1599289640401 then (w_Row.l0 kj15 l0 (x3_1 ++ [(⟨1, 5, 0, 10, (⟨#[126]⟩ : ByteArray), (⟨#[]⟩ : ByteArray), ([] : List Int)⟩ : S33)]) (wrap64 (x4_1 + 1))) else (none)) else (if (Int.tmod (wrap64 (Int.tmod (IntKind.u64.wrap (rd l0 x4_1)) 100000)) 12) = 6 then (if x3_1.length < 1599289640401 then (w_Row.l0 kj15 l0 (x3_1 ++ [(⟨2, wrap64 ((Int.tmod (wrap64 (Int.tdiv (wrap64 (Int.tmod (IntKind.u64.wrap (rd l0 x4_1)) 100000)) 12)) 31) - 15), 0, 0, (⟨#[]⟩ : ByteArray), (⟨#[]⟩ : ByteArray), ([] : List Int)⟩ : S33)]) (wrap64 (x4_1 + 1))) else (none)) else (if (Int.tmod (wrap64 (Int.tmod (IntKind.u64.wrap (rd l0 x4_1)) 100000)) 12) = 7 then (if x3_1.length < 1599289640401 then (w_Row.l0 kj15 l0 (x3_1 ++ [(⟨6, Int.tmod (wrap64 (Int.tdiv (wrap64 (Int.tmod (IntKind.u64.wrap (rd l0 x4_1)) 100000)) 12)) 10, 0, 0, (⟨#[]⟩ : ByteArray), (⟨#[]⟩ : ByteArray), ([] : List Int)⟩ : S33)]) (wrap64 (x4_1 + 1))) else (none)) else (if 0 ≤ (Int.tmod (wrap64 (Int.tdiv (wrap64 (Int.tmod (IntKind.u64.wrap (rd l0 x4_1)) 100000)) 12)) 8) then (if (Int.tmod (wrap64 (Int.tdiv (wrap64 (Int.tmod (IntKind.u64.wrap (rd l0 x4_1)) 100000)) 12)) 8) ≤ (wrap64 ((Int.tmod (wrap64 (Int.tdiv (wrap64 (Int.tmod (IntKind.u64.wrap (rd l0 x4_1)) 100000)) 12)) 8) + 1)) then (if (wrap64 ((Int.tmod (wrap64 (Int.tdiv (wrap64 (Int.tmod (IntKind.u64.wrap (rd l0 x4_1)) 100000)) 12)) 8) + 1)) ≤ 8 then (if x3_1.length < 1599289640401 then (w_Row.l0 kj15 l0 (x3_1 ++ [(⟨0, wrap64 (5 + (Int.tmod (wrap64 (Int.tdiv (wrap64 (Int.tmod (IntKind.u64.wrap (rd l0 x4_1)) 100000)) 12)) 12)), 0, 10, (⟨#[97, 98, 99, 100, 101, 102, 103, 104]⟩ : ByteArray).extract ((Int.tmod (wrap64 (Int.tdiv (wrap64 (Int.tmod (IntKind.u64.wrap (rd l0 x4_1)) 100000)) 12)) 8) : Int).toNat ((wrap64 ((Int.tmod (wrap64 (Int.tdiv (wrap64 (Int.tmod (IntKind.u64.wrap (rd l0 x4_1)) 100000)) 12)) 8) + 1)) : Int).toNat, (⟨#[]⟩ : ByteArray), ([] : List Int)⟩ : S33)]) (wrap64 (x4_1 + 1))) else (none)) else (none)) else (none)) else (none))))) = some r := by rw [if_neg (show ¬ (false = true) by decide)] at H; exact H
         clear H
         have H := H1
         clear H1
         by_cases c21 : (Int.tmod (wrap64 (Int.tmod (IntKind.u64.wrap (rd l0 x4_1)) 100000)) 12) = 5
         ·rw [if_pos c21] at H
          have c21b0 : ((Int.tmod (wrap64 (Int.tmod (IntKind.u64.wrap (rd l0 x4_1)) 100000)) 12) == 5) = true := beq_iff_eq.mpr c21
          have c21b1 : ((Int.tmod (wrap64 (Int.tmod (IntKind.u64.wrap (rd l0 x4_1)) 100000)) 12) != 5) = false := bne_eq_false_iff_eq.mpr c21
          clear c21
          by_cases c22 : x3_1.length < 1599289640401
          rotate_left
          ·rw [if_neg c22] at H
           exact absurd H (by simp)
          rw [if_pos c22] at H
          have LMc22 := o_ c22
          clear c22
          obtain ⟨y118, hy118⟩ : ∃ y_ : List (S33), y_ = (x3_1 ++ [(⟨1, 5, 0, 10, (⟨#[126]⟩ : ByteArray), (⟨#[]⟩ : ByteArray), ([] : List Int)⟩ : S33)]) := ⟨_, rfl⟩
          replace H : (w_Row.l0 kj15 l0 y118 (wrap64 (x4_1 + 1))) = some r := by first | (rw [hy118]; with_reducible exact H) | (have H2_ := (Option.bind_some _ _).symm.trans H; rw [hy118]; with_reducible exact H2_) | (have H2_ := (Option.bind_some _ _).symm.trans H; with_reducible exact H2_) | with_reducible exact H | (rw [hy118]; exact H) | exact H
          have Ny118 := o_ hy118
          clear hy118
          have H' := o_ H
          clear H
          go_wp2_with (first | ((with_reducible refine gate_builtin (b := .append) (xs := #[.tmp 61, .tmp 63]) rfl ?_); at_builtin; refine Kd.S_append k33 (w0 := w) w.heap.size rfl (.tmp 61) (.tmp 63) 23 33 (.agg #[(.int .i64 0), (.int .i64 0), (.int .i64 0), (.int .i64 0), (.string ⟨#[]⟩), (.string ⟨#[]⟩), (.slice none 0 0)]) 88 rfl Try.underlying23 info33 rfl (by decide) (by omega) u3 x3_1 (⟨1, 5, 0, 10, (⟨#[126]⟩ : ByteArray), (⟨#[]⟩ : ByteArray), ([] : List Int)⟩ : S33) [.int .i64 1, .int .i64 5, .int .i64 0, .int .i64 10, .string ⟨#[126]⟩, .string ⟨#[]⟩, .slice none 0 0] (fun _ => True) (fun _ => False) rfl rfl ?aP (fun k_ hk_ => hk_.elim) ?aF ?aO ?aB ?aS ?aL ?_; (case aP => exact k33_mkM _ _ _ (⟨1, 5, 0, 10, (⟨#[126]⟩ : ByteArray), (⟨#[]⟩ : ByteArray), ([] : List Int)⟩ : S33) (Kd.R_nil _ _ _ _ _)); (case aB => exact (bl HB)); (case aF => exact (fun _ _ => trivial)); (case aO => exact (by (with_reducible repeat (first | apply Kd.S_alloc | apply Kd.S_drewN | apply Kd.S_drew)); exact Kd.S_mono HO_3.out (fun k_ hk => ⟨trivial, fun e_ => e_⟩))); (case aS => exact (below_size (bl HB))); (case aL => have := LMc22.out; omega); intro v119 w23 ho hb hg hat; rw [← Ny118.out] at ho; have n0_ := o_ (hb); have n1_ := o_ (ho); clear HB; clear HO_3; have HB := n0_; have HO120 := n1_; clear n0_ n1_; clear ho hb hg hat))
          go_roundg kj15
          case measure => have := HK1.out; have := HJ1.out; have := HJ6.out; have := HJ15.out; omega
          case rel => exact ⟨(y118), (wrap64 (x4_1 + 1)), (by first | rfl | simp [*]), H', ⟨by have := HK1.out; have := HJ1.out; have := HJ6.out; have := HJ15.out; omega⟩, ⟨Su HO120⟩, ⟨bl HB⟩⟩
         rw [if_neg c21] at H
         have c21b0 : ((Int.tmod (wrap64 (Int.tmod (IntKind.u64.wrap (rd l0 x4_1)) 100000)) 12) == 5) = false := beq_eq_false_iff_ne.mpr c21
         have c21b1 : ((Int.tmod (wrap64 (Int.tmod (IntKind.u64.wrap (rd l0 x4_1)) 100000)) 12) != 5) = true := bne_iff_ne.mpr c21
         by_cases c24 : (Int.tmod (wrap64 (Int.tmod (IntKind.u64.wrap (rd l0 x4_1)) 100000)) 12) = 6
         ·rw [if_pos c24] at H
          have c24b0 : ((Int.tmod (wrap64 (Int.tmod (IntKind.u64.wrap (rd l0 x4_1)) 100000)) 12) == 6) = true := beq_iff_eq.mpr c24
          have c24b1 : ((Int.tmod (wrap64 (Int.tmod (IntKind.u64.wrap (rd l0 x4_1)) 100000)) 12) != 6) = false := bne_eq_false_iff_eq.mpr c24
          clear c24
          by_cases c25 : x3_1.length < 1599289640401
          rotate_left
          ·rw [if_neg c25] at H
           exact absurd H (by simp)
          rw [if_pos c25] at H
          have LMc25 := o_ c25
          clear c25
          obtain ⟨y121, hy121⟩ : ∃ y_ : List (S33), y_ = (x3_1 ++ [(⟨2, wrap64 ((Int.tmod (wrap64 (Int.tdiv (wrap64 (Int.tmod (IntKind.u64.wrap (rd l0 x4_1)) 100000)) 12)) 31) - 15), 0, 0, (⟨#[]⟩ : ByteArray), (⟨#[]⟩ : ByteArray), ([] : List Int)⟩ : S33)]) := ⟨_, rfl⟩
          replace H : (w_Row.l0 kj15 l0 y121 (wrap64 (x4_1 + 1))) = some r := by first | (rw [hy121]; with_reducible exact H) | (have H2_ := (Option.bind_some _ _).symm.trans H; rw [hy121]; with_reducible exact H2_) | (have H2_ := (Option.bind_some _ _).symm.trans H; with_reducible exact H2_) | with_reducible exact H | (rw [hy121]; exact H) | exact H
          have Ny121 := o_ hy121
          clear hy121
          have H' := o_ H
          clear H
          go_wp2_with (first | ((with_reducible refine gate_builtin (b := .append) (xs := #[.tmp 67, .tmp 73]) rfl ?_); at_builtin; refine Kd.S_append k33 (w0 := w) w.heap.size rfl (.tmp 67) (.tmp 73) 23 33 (.agg #[(.int .i64 0), (.int .i64 0), (.int .i64 0), (.int .i64 0), (.string ⟨#[]⟩), (.string ⟨#[]⟩), (.slice none 0 0)]) 88 rfl Try.underlying23 info33 rfl (by decide) (by omega) u3 x3_1 (⟨2, wrap64 ((Int.tmod (wrap64 (Int.tdiv (wrap64 (Int.tmod (IntKind.u64.wrap (rd l0 x4_1)) 100000)) 12)) 31) - 15), 0, 0, (⟨#[]⟩ : ByteArray), (⟨#[]⟩ : ByteArray), ([] : List Int)⟩ : S33) [.int .i64 2, .int .i64 (wrap64 ((Int.tmod (wrap64 (Int.tdiv (wrap64 (Int.tmod (IntKind.u64.wrap (rd l0 x4_1)) 100000)) 12)) 31) - 15)), .int .i64 0, .int .i64 0, .string ⟨#[]⟩, .string ⟨#[]⟩, .slice none 0 0] (fun _ => True) (fun _ => False) rfl rfl ?aP (fun k_ hk_ => hk_.elim) ?aF ?aO ?aB ?aS ?aL ?_; (case aP => exact k33_mkM _ _ _ (⟨2, wrap64 ((Int.tmod (wrap64 (Int.tdiv (wrap64 (Int.tmod (IntKind.u64.wrap (rd l0 x4_1)) 100000)) 12)) 31) - 15), 0, 0, (⟨#[]⟩ : ByteArray), (⟨#[]⟩ : ByteArray), ([] : List Int)⟩ : S33) (Kd.R_nil _ _ _ _ _)); (case aB => exact (bl HB)); (case aF => exact (fun _ _ => trivial)); (case aO => exact (by (with_reducible repeat (first | apply Kd.S_alloc | apply Kd.S_drewN | apply Kd.S_drew)); exact Kd.S_mono HO_3.out (fun k_ hk => ⟨trivial, fun e_ => e_⟩))); (case aS => exact (below_size (bl HB))); (case aL => have := LMc25.out; omega); intro v122 w26 ho hb hg hat; rw [← Ny121.out] at ho; have n0_ := o_ (hb); have n1_ := o_ (ho); clear HB; clear HO_3; have HB := n0_; have HO123 := n1_; clear n0_ n1_; clear ho hb hg hat))
          go_roundg kj15
          case measure => have := HK1.out; have := HJ1.out; have := HJ6.out; have := HJ15.out; omega
          case rel => exact ⟨(y121), (wrap64 (x4_1 + 1)), (by first | rfl | simp [*]), H', ⟨by have := HK1.out; have := HJ1.out; have := HJ6.out; have := HJ15.out; omega⟩, ⟨Su HO123⟩, ⟨bl HB⟩⟩
         rw [if_neg c24] at H
         have c24b0 : ((Int.tmod (wrap64 (Int.tmod (IntKind.u64.wrap (rd l0 x4_1)) 100000)) 12) == 6) = false := beq_eq_false_iff_ne.mpr c24
         have c24b1 : ((Int.tmod (wrap64 (Int.tmod (IntKind.u64.wrap (rd l0 x4_1)) 100000)) 12) != 6) = true := bne_iff_ne.mpr c24
         by_cases c27 : (Int.tmod (wrap64 (Int.tmod (IntKind.u64.wrap (rd l0 x4_1)) 100000)) 12) = 7
         ·rw [if_pos c27] at H
          have c27b0 : ((Int.tmod (wrap64 (Int.tmod (IntKind.u64.wrap (rd l0 x4_1)) 100000)) 12) == 7) = true := beq_iff_eq.mpr c27
          have c27b1 : ((Int.tmod (wrap64 (Int.tmod (IntKind.u64.wrap (rd l0 x4_1)) 100000)) 12) != 7) = false := bne_eq_false_iff_eq.mpr c27
          clear c27
          by_cases c28 : x3_1.length < 1599289640401
          rotate_left
          ·rw [if_neg c28] at H
           exact absurd H (by simp)
          rw [if_pos c28] at H
          have LMc28 := o_ c28
          clear c28
          obtain ⟨y124, hy124⟩ : ∃ y_ : List (S33), y_ = (x3_1 ++ [(⟨6, Int.tmod (wrap64 (Int.tdiv (wrap64 (Int.tmod (IntKind.u64.wrap (rd l0 x4_1)) 100000)) 12)) 10, 0, 0, (⟨#[]⟩ : ByteArray), (⟨#[]⟩ : ByteArray), ([] : List Int)⟩ : S33)]) := ⟨_, rfl⟩
          replace H : (w_Row.l0 kj15 l0 y124 (wrap64 (x4_1 + 1))) = some r := by first | (rw [hy124]; with_reducible exact H) | (have H2_ := (Option.bind_some _ _).symm.trans H; rw [hy124]; with_reducible exact H2_) | (have H2_ := (Option.bind_some _ _).symm.trans H; with_reducible exact H2_) | with_reducible exact H | (rw [hy124]; exact H) | exact H
          have Ny124 := o_ hy124
          clear hy124
          have H' := o_ H
          clear H
          go_wp2_with (first | ((with_reducible refine gate_builtin (b := .append) (xs := #[.tmp 77, .tmp 82]) rfl ?_); at_builtin; refine Kd.S_append k33 (w0 := w) w.heap.size rfl (.tmp 77) (.tmp 82) 23 33 (.agg #[(.int .i64 0), (.int .i64 0), (.int .i64 0), (.int .i64 0), (.string ⟨#[]⟩), (.string ⟨#[]⟩), (.slice none 0 0)]) 88 rfl Try.underlying23 info33 rfl (by decide) (by omega) u3 x3_1 (⟨6, Int.tmod (wrap64 (Int.tdiv (wrap64 (Int.tmod (IntKind.u64.wrap (rd l0 x4_1)) 100000)) 12)) 10, 0, 0, (⟨#[]⟩ : ByteArray), (⟨#[]⟩ : ByteArray), ([] : List Int)⟩ : S33) [.int .i64 6, .int .i64 (Int.tmod (wrap64 (Int.tdiv (wrap64 (Int.tmod (IntKind.u64.wrap (rd l0 x4_1)) 100000)) 12)) 10), .int .i64 0, .int .i64 0, .string ⟨#[]⟩, .string ⟨#[]⟩, .slice none 0 0] (fun _ => True) (fun _ => False) rfl rfl ?aP (fun k_ hk_ => hk_.elim) ?aF ?aO ?aB ?aS ?aL ?_; (case aP => exact k33_mkM _ _ _ (⟨6, Int.tmod (wrap64 (Int.tdiv (wrap64 (Int.tmod (IntKind.u64.wrap (rd l0 x4_1)) 100000)) 12)) 10, 0, 0, (⟨#[]⟩ : ByteArray), (⟨#[]⟩ : ByteArray), ([] : List Int)⟩ : S33) (Kd.R_nil _ _ _ _ _)); (case aB => exact (bl HB)); (case aF => exact (fun _ _ => trivial)); (case aO => exact (by (with_reducible repeat (first | apply Kd.S_alloc | apply Kd.S_drewN | apply Kd.S_drew)); exact Kd.S_mono HO_3.out (fun k_ hk => ⟨trivial, fun e_ => e_⟩))); (case aS => exact (below_size (bl HB))); (case aL => have := LMc28.out; omega); intro v125 w29 ho hb hg hat; rw [← Ny124.out] at ho; have n0_ := o_ (hb); have n1_ := o_ (ho); clear HB; clear HO_3; have HB := n0_; have HO126 := n1_; clear n0_ n1_; clear ho hb hg hat))
          go_roundg kj15
          case measure => have := HK1.out; have := HJ1.out; have := HJ6.out; have := HJ15.out; omega
          case rel => exact ⟨(y124), (wrap64 (x4_1 + 1)), (by first | rfl | simp [*]), H', ⟨by have := HK1.out; have := HJ1.out; have := HJ6.out; have := HJ15.out; omega⟩, ⟨Su HO126⟩, ⟨bl HB⟩⟩
         rw [if_neg c27] at H
         have c27b0 : ((Int.tmod (wrap64 (Int.tmod (IntKind.u64.wrap (rd l0 x4_1)) 100000)) 12) == 7) = false := beq_eq_false_iff_ne.mpr c27
         have c27b1 : ((Int.tmod (wrap64 (Int.tmod (IntKind.u64.wrap (rd l0 x4_1)) 100000)) 12) != 7) = true := bne_iff_ne.mpr c27
         obtain ⟨ji30, hji30⟩ : ∃ j_ : Int, (Int.tmod (wrap64 (Int.tdiv (wrap64 (Int.tmod (IntKind.u64.wrap (rd l0 x4_1)) 100000)) 12)) 8) = j_ := ⟨_, rfl⟩
         replace H : (if 0 ≤ (ji30) then (if (ji30) ≤ (wrap64 ((ji30) + 1)) then (if (wrap64 ((ji30) + 1)) ≤ 8 then (if x3_1.length < 1599289640401 then (w_Row.l0 kj15 l0 (x3_1 ++ [(⟨0, wrap64 (5 + (Int.tmod (wrap64 (Int.tdiv (wrap64 (Int.tmod (IntKind.u64.wrap (rd l0 x4_1)) 100000)) 12)) 12)), 0, 10, (⟨#[97, 98, 99, 100, 101, 102, 103, 104]⟩ : ByteArray).extract ((ji30) : Int).toNat ((wrap64 ((ji30) + 1)) : Int).toNat, (⟨#[]⟩ : ByteArray), ([] : List Int)⟩ : S33)]) (wrap64 (x4_1 + 1))) else (none)) else (none)) else (none)) else (none)) = some r := by first | (rw [hji30] at H; exact H) | (simp only [hji30] at H ⊢; exact H)
         by_cases c31 : 0 ≤ (ji30)
         rotate_left
         ·rw [if_neg c31] at H
          exact absurd H (by simp)
         rw [if_pos c31] at H
         have c31b0 := eq_true c31
         have c31b1 := decide_eq_true c31
         clear c31
         by_cases c32 : (ji30) ≤ (wrap64 ((ji30) + 1))
         rotate_left
         ·rw [if_neg c32] at H
          exact absurd H (by simp)
         rw [if_pos c32] at H
         have c32b0 := eq_true c32
         have c32b1 := decide_eq_true c32
         by_cases c33 : (wrap64 ((ji30) + 1)) ≤ 8
         rotate_left
         ·rw [if_neg c33] at H
          exact absurd H (by simp)
         rw [if_pos c33] at H
         have c33b0 := eq_true c33
         have c33b1 := decide_eq_true c33
         by_cases c34 : x3_1.length < 1599289640401
         rotate_left
         ·rw [if_neg c34] at H
          exact absurd H (by simp)
         rw [if_pos c34] at H
         have LMc34 := o_ c34
         clear c34
         obtain ⟨y127, hy127⟩ : ∃ y_ : List (S33), y_ = (x3_1 ++ [(⟨0, wrap64 (5 + (Int.tmod (wrap64 (Int.tdiv (wrap64 (Int.tmod (IntKind.u64.wrap (rd l0 x4_1)) 100000)) 12)) 12)), 0, 10, (⟨#[97, 98, 99, 100, 101, 102, 103, 104]⟩ : ByteArray).extract ((ji30) : Int).toNat ((wrap64 ((ji30) + 1)) : Int).toNat, (⟨#[]⟩ : ByteArray), ([] : List Int)⟩ : S33)]) := ⟨_, rfl⟩
         replace H : (w_Row.l0 kj15 l0 y127 (wrap64 (x4_1 + 1))) = some r := by first | (rw [hy127]; with_reducible exact H) | (have H2_ := (Option.bind_some _ _).symm.trans H; rw [hy127]; with_reducible exact H2_) | (have H2_ := (Option.bind_some _ _).symm.trans H; with_reducible exact H2_) | with_reducible exact H | (rw [hy127]; exact H) | exact H
         have Ny127 := o_ hy127
         clear hy127
         have H' := o_ H
         clear H
         go_wp2_with (first | ((with_reducible refine gate_builtin (b := .append) (xs := #[.tmp 25, .tmp 39]) rfl ?_); at_builtin; refine Kd.S_append k33 (w0 := w) w.heap.size rfl (.tmp 25) (.tmp 39) 23 33 (.agg #[(.int .i64 0), (.int .i64 0), (.int .i64 0), (.int .i64 0), (.string ⟨#[]⟩), (.string ⟨#[]⟩), (.slice none 0 0)]) 88 rfl Try.underlying23 info33 rfl (by decide) (by omega) u3 x3_1 (⟨0, wrap64 (5 + (Int.tmod (wrap64 (Int.tdiv (wrap64 (Int.tmod (IntKind.u64.wrap (rd l0 x4_1)) 100000)) 12)) 12)), 0, 10, (⟨#[97, 98, 99, 100, 101, 102, 103, 104]⟩ : ByteArray).extract ((ji30) : Int).toNat ((wrap64 ((ji30) + 1)) : Int).toNat, (⟨#[]⟩ : ByteArray), ([] : List Int)⟩ : S33) [.int .i64 0, .int .i64 (wrap64 (5 + (Int.tmod (wrap64 (Int.tdiv (wrap64 (Int.tmod (IntKind.u64.wrap (rd l0 x4_1)) 100000)) 12)) 12))), .int .i64 0, .int .i64 10, .string ((⟨#[97, 98, 99, 100, 101, 102, 103, 104]⟩ : ByteArray).extract ((ji30) : Int).toNat ((wrap64 ((ji30) + 1)) : Int).toNat), .string ⟨#[]⟩, .slice none 0 0] (fun _ => True) (fun _ => False) rfl rfl ?aP (fun k_ hk_ => hk_.elim) ?aF ?aO ?aB ?aS ?aL ?_; (case aP => exact k33_mkM _ _ _ (⟨0, wrap64 (5 + (Int.tmod (wrap64 (Int.tdiv (wrap64 (Int.tmod (IntKind.u64.wrap (rd l0 x4_1)) 100000)) 12)) 12)), 0, 10, (⟨#[97, 98, 99, 100, 101, 102, 103, 104]⟩ : ByteArray).extract ((ji30) : Int).toNat ((wrap64 ((ji30) + 1)) : Int).toNat, (⟨#[]⟩ : ByteArray), ([] : List Int)⟩ : S33) (Kd.R_nil _ _ _ _ _)); (case aB => exact (bl HB)); (case aF => exact (fun _ _ => trivial)); (case aO => exact (by (with_reducible repeat (first | apply Kd.S_alloc | apply Kd.S_drewN | apply Kd.S_drew)); exact Kd.S_mono HO_3.out (fun k_ hk => ⟨trivial, fun e_ => e_⟩))); (case aS => exact (below_size (bl HB))); (case aL => have := LMc34.out; omega); intro v128 w35 ho hb hg hat; rw [← Ny127.out] at ho; have n0_ := o_ (hb); have n1_ := o_ (ho); clear HB; clear HO_3; have HB := n0_; have HO129 := n1_; clear n0_ n1_; clear ho hb hg hat))
         go_roundg kj15
         case measure => have := HK1.out; have := HJ1.out; have := HJ6.out; have := HJ15.out; omega
         case rel => exact ⟨(y127), (wrap64 (x4_1 + 1)), (by first | rfl | simp [*]), H', ⟨by have := HK1.out; have := HJ1.out; have := HJ6.out; have := HJ15.out; omega⟩, ⟨Su HO129⟩, ⟨bl HB⟩⟩
end Go.Proofs.Yteadghhmoggjnaa.Q
end
end
