import Derived.Test.YteadghhmoggjnaaFM19
import Derived.Test.YteadghhmoggjnaaFM20
set_option linter.unusedVariables false
set_option linter.unusedSimpArgs false
section
namespace Go.Proofs.Yteadghhmoggjnaa.Q
open Go.RowKit YteadghhmoggjnaaW.PrintWords YteadghhmoggjnaaW.PrintLast YteadghhmoggjnaaW.PrintMore
attribute [local go_sem] max2_int max_two
set_option maxHeartbeats 8000000
set_option maxRecDepth 100000
def r_Take.j0 : Nat → List (S33) → Int → Int → Bool → Int → Int → Int → Int → ByteArray → ByteArray → List Int → Option ((List (S33)) × (List (S33)) × Bool × Int)
 | 0, _, _, _, _, _, _, _, _, _, _, _ => none
 | k + 1, x0, x1, x10, x30, gg0, gg1, gg2, gg3, gg4, gg5, gg6 => if x30 = true then (some (([] : List (S33)), ([] : List (S33)), false, 1)) else (if x10 = 0 then ((r_take.f k x0 x1 gg0 gg1 gg2 gg3 gg4 gg5 gg6).bind fun bt533 => ((r_own.f k bt533.1).bind fun t540 => ((r_own.f k bt533.2.1).bind fun t543 => (some (t540, t543, bt533.2.2, 0))))) else (some (([] : List (S33)), ([] : List (S33)), false, x10)))
def r_Take.f (k : Nat) (l0 : List (S33)) (a1 : Int) (a2_0 : Int) (a2_1 : Int) (a2_2 : Int) (a2_3 : Int) (a2_4 : ByteArray) (a2_5 : ByteArray) (l2_6 : List Int) : Option ((List (S33)) × (List (S33)) × Bool × Int) := (r_check.f k l0).bind fun t531 => (if t531 = 1 then (r_Take.j0 k l0 a1 t531 true a2_0 a2_1 a2_2 a2_3 a2_4 a2_5 l2_6) else (if a1 < 0 then (r_Take.j0 k l0 a1 t531 true a2_0 a2_1 a2_2 a2_3 a2_4 a2_5 l2_6) else (if a1 > 10000000 then (r_Take.j0 k l0 a1 t531 true a2_0 a2_1 a2_2 a2_3 a2_4 a2_5 l2_6) else ((r_isHyphen.f k a2_0 a2_1 a2_2 a2_3 a2_4 a2_5 l2_6).bind fun t532 => (r_Take.j0 k l0 a1 t531 (!t532) a2_0 a2_1 a2_2 a2_3 a2_4 a2_5 l2_6)))))
theorem r_Take.calls (k : Nat) (A0 : Option Addr) (c0 : Nat) (l0 : List (S33)) (a1 : Int) (a2_0 : Int) (a2_1 : Int) (a2_2 : Int) (a2_3 : Int) (a2_4 : ByteArray) (a2_5 : ByteArray) (A2_6 : Option Addr) (c2_6 : Nat) (l2_6 : List Int) (r1 : List (S33)) (r2 : List (S33)) (r3 : Bool) (r4 : Int) (w : World) (hr0 : Kd.C k33 w A0 l0.length l0) (hc0 : l0.length ≤ c0) (hr2_6 : Kd.C (Kd.int .i64) w A2_6 l2_6.length l2_6) (hc2_6 : l2_6.length ≤ c2_6) (h : r_Take.f k l0 a1 a2_0 a2_1 a2_2 a2_3 a2_4 a2_5 l2_6 = some (r1, r2, r3, r4)) :
  Calls Try.prog 44 #[.slice A0 l0.length c0, .int .i64 a1, .agg #[.int .i64 a2_0, .int .i64 a2_1, .int .i64 a2_2, .int .i64 a2_3, .string a2_4, .string a2_5, .slice A2_6 l2_6.length c2_6]] w fun e w' => ∃ v0_ v1_ : Value, e = .returned (.tuple #[v0_, v1_, .bool r3, .int .i64 r4]) ∧ Kd.S k33 33 w' w.heap.size (fun k_ => some k_ ≠ (v1_ : Value).ownBlock) v0_ r1 ∧ Kd.S k33 33 w' w.heap.size (fun k_ => some k_ ≠ (v0_ : Value).ownBlock) v1_ r2 ∧ Below w.heap.size w w' := by
 have hu33 := Try.underlying33
 have HR0 := o_ hr0
 have HC0 := o_ hc0
 clear hr0 hc0
 have HR2_6 := o_ hr2_6
 have HC2_6 := o_ hc2_6
 clear hr2_6 hc2_6
 have HB := o_ (Below.refl w.heap.size w)
 have H : ((r_check.f k l0).bind fun t531 => (if t531 = 1 then (r_Take.j0 k l0 a1 t531 true a2_0 a2_1 a2_2 a2_3 a2_4 a2_5 l2_6) else (if a1 < 0 then (r_Take.j0 k l0 a1 t531 true a2_0 a2_1 a2_2 a2_3 a2_4 a2_5 l2_6) else (if a1 > 10000000 then (r_Take.j0 k l0 a1 t531 true a2_0 a2_1 a2_2 a2_3 a2_4 a2_5 l2_6) else ((r_isHyphen.f k a2_0 a2_1 a2_2 a2_3 a2_4 a2_5 l2_6).bind fun t532 => (r_Take.j0 k l0 a1 t531 (!t532) a2_0 a2_1 a2_2 a2_3 a2_4 a2_5 l2_6)))))) = some (r1, r2, r3, r4) := h
 clear h
 obtain ⟨t531, A40, H⟩ := qb H
 try dsimp only at H
 have A4 := o_ A40
 clear A40
 have HC5 := o_ H
 clear H
 go_enter Try.func44, Try.ntmps44
 go_upto_region 2 with (first | ((with_reducible refine gate_dst (N := 5) rfl ?_); refine box_event ?hg (N := 5) ?hd (cs := #[.int .i64 a2_0, .int .i64 a2_1, .int .i64 a2_2, .int .i64 a2_3, .string a2_4, .string a2_5, .slice A2_6 l2_6.length c2_6]) (t := 33) ?hr ?_; (case hd => rfl); (case hg => rfl); (case hr => first | (go_simp; done) | (go_simp; rfl)); intro gb530 hg w6 hbox hb; have n0_ := o_ (below_step (bl HB) hb); have n1_ := o_ (hbox); have n2_ := o_ ((by rw [hg]; exact (below_size (bl HB)) : w.heap.size ≤ gb530)); have n3_ := o_ ((by rw [hg]; exact (below_size (bl HB)) : w.heap.size ≤ gb530)); clear HB; have HB := n0_; have BK530 := n1_; have GW530 := n2_; have GE530 := n3_; clear n0_ n1_ n2_ n3_; clear hb hbox hg) | (go_at_call 67; (with_reducible refine (r_check.calls k _ _ l0 t531 _ ?side1 ?side2 A4.out).mono ?_); (case side1 => exact Kd.C_below HR0.out (bl HB)); (case side2 => exact HC0.out); rintro e w7 ⟨rfl, hb⟩; have n0_ := o_ (blk_below (g := gb530) (o := .cells #[.int .i64 a2_0, .int .i64 a2_1, .int .i64 a2_2, .int .i64 a2_3, .string a2_4, .string a2_5, .slice A2_6 l2_6.length c2_6] 33 (0, 0)) (bu BK530) hb); have n1_ := o_ (below_step (bl HB) hb); clear BK530; clear HB; have BK530 := n0_; have HB := n1_; clear n0_ n1_; (try clear hb)))
 (try simp only [Act.put, List.setIfInBounds_toArray, List.set_cons_zero, List.set_cons_succ])
 go_cut [30] (fun v30 wc => ∃ (kq : Nat) (x30_4 : Bool), v30 = .bool x30_4 ∧ As (r_Take.j0 kq l0 a1 t531 x30_4 a2_0 a2_1 a2_2 a2_3 a2_4 a2_5 l2_6 = some (r1, r2, r3, r4)) ∧ As (kq ≤ k) ∧ As (wc.heap[gb530]? = some (.cells #[.int .i64 a2_0, .int .i64 a2_1, .int .i64 a2_2, .int .i64 a2_3, .string a2_4, .string a2_5, (.slice A2_6 l2_6.length c2_6)] 33 (0, 0))) ∧ As (Below w.heap.size w wc))
 case first =>
  have H := HC5.out
  clear HC5
  by_cases c8 : t531 = 1
  ·rw [if_pos c8] at H
   have c8b0 : (t531 == 1) = true := beq_iff_eq.mpr c8
   have c8b1 : (t531 != 1) = false := bne_eq_false_iff_eq.mpr c8
   clear c8
   (first | rw [c8b0] | (simp only [i64_w, i32_w]; rw [c8b0]) | skip)
   have H' := o_ H
   clear H
   go_wp2
   go_meet
   case rel => exact ⟨_, (true), (by first | rfl | simp [*]), H', ⟨by first | omega | exact Nat.le_refl _⟩, ⟨bu BK530⟩, ⟨bl HB⟩⟩
  rw [if_neg c8] at H
  have c8b0 : (t531 == 1) = false := beq_eq_false_iff_ne.mpr c8
  have c8b1 : (t531 != 1) = true := bne_iff_ne.mpr c8
  (first | rw [c8b0] | (simp only [i64_w, i32_w]; rw [c8b0]) | skip)
  by_cases c9 : a1 < 0
  ·rw [if_pos c9] at H
   have c9b0 := decide_eq_true c9
   clear c9
   have H' := o_ H
   clear H
   go_wp2
   go_meet
   case rel => exact ⟨_, (true), (by first | rfl | simp [*]), H', ⟨by first | omega | exact Nat.le_refl _⟩, ⟨bu BK530⟩, ⟨bl HB⟩⟩
  rw [if_neg c9] at H
  have c9b0 := decide_eq_false c9
  clear c9
  by_cases c10 : a1 > 10000000
  ·rw [if_pos c10] at H
   have c10b0 : decide (10000000 < a1) = true := decide_eq_true c10
   clear c10
   have H' := o_ H
   clear H
   go_wp2
   go_meet
   case rel => exact ⟨_, (true), (by first | rfl | simp [*]), H', ⟨by first | omega | exact Nat.le_refl _⟩, ⟨bu BK530⟩, ⟨bl HB⟩⟩
  rw [if_neg c10] at H
  have c10b0 : decide (10000000 < a1) = false := decide_eq_false c10
  clear c10
  obtain ⟨t532, A110, H⟩ := qb H
  try dsimp only at H
  have A11 := o_ A110
  clear A110
  have H' := o_ H
  clear H
  have z12 := box7 BK530
  go_wp2_with (first | (go_at_call 68; (with_reducible refine (r_isHyphen.calls k a2_0 a2_1 a2_2 a2_3 a2_4 a2_5 _ _ l2_6 t532 _ ?side1 ?side2 A11.out).mono ?_); (case side1 => exact Kd.C_below HR2_6.out (bl HB)); (case side2 => exact HC2_6.out); rintro e w13 ⟨rfl, hb⟩; have n0_ := o_ (blk_below (g := gb530) (o := .cells #[.int .i64 a2_0, .int .i64 a2_1, .int .i64 a2_2, .int .i64 a2_3, .string a2_4, .string a2_5, .slice A2_6 l2_6.length c2_6] 33 (0, 0)) (bu BK530) hb); have n1_ := o_ (below_step (bl HB) hb); clear BK530; clear HB; have BK530 := n0_; have HB := n1_; clear n0_ n1_; (try clear hb)))
  go_meet
  case rel => exact ⟨_, (!t532), (by first | rfl | simp [*]), H', ⟨by first | omega | exact Nat.le_refl _⟩, ⟨bu BK530⟩, ⟨bl HB⟩⟩
 case rest =>
  clear HC5
  try clear z12
  obtain ⟨kq, x30_4, rfl, HA, HJ4, BK530, HB⟩ := hcut
  cases kq with
  | zero => exact absurd HA.out (by simp [r_Take.j0])
  | succ kj4 =>
   have H := HA.out
   clear HA
   simp only [r_Take.j0] at H
   by_cases c14 : x30_4 = true
   ·subst c14
    have H1 : (some (([] : List (S33)), ([] : List (S33)), false, 1)) = some (r1, r2, r3, r4) := by rw [if_pos rfl] at H; exact H
    clear H
    have H := H1
    clear H1
    simp only [Option.some.injEq, Prod.mk.injEq] at H
    obtain ⟨rfl, rfl, rfl, rfl⟩ := H
    go_wp2
    refine bodyPost_ret (results_list (rs := [.tmp 6, .tmp 7, .tmp 8, .tmp 9]) rfl (by simp) (.tmp (.tmp (.tmp (.tmp .nil))))) rfl ?_
    exact ⟨_, _, by first | rfl | (simp [*] <;> rfl), by first | exact Kd.S_nil _ _ _ _ _ | exact Kd.N_nil _ _ _ _ _ | exact Kd.V_nil _ _ _ _ _ | exact Kd.Q_nil _ _ _ _ _ | exact Kd.R_nil _ _ _ _ _, by first | exact Kd.S_nil _ _ _ _ _ | exact Kd.N_nil _ _ _ _ _ | exact Kd.V_nil _ _ _ _ _ | exact Kd.Q_nil _ _ _ _ _ | exact Kd.R_nil _ _ _ _ _, bl HB⟩
   replace c14 := Bool.eq_false_iff.mpr c14
   subst c14
   have H1 : (if t531 = 0 then ((r_take.f kj4 l0 a1 a2_0 a2_1 a2_2 a2_3 a2_4 a2_5 l2_6).bind fun bt533 => ((r_own.f kj4 bt533.1).bind fun t540 => ((r_own.f kj4 bt533.2.1).bind fun t543 => (some (t540, t543, bt533.2.2, 0))))) else (some (([] : List (S33)), ([] : List (S33)), false, t531))) = some (r1, r2, r3, r4) := by rw [if_neg (show ¬ (false = true) by decide)] at H; exact H
   clear H
   have H := H1
   clear H1
   by_cases c15 : t531 = 0
   rotate_left
   ·rw [if_neg c15] at H
    have c15b0 : (t531 == 0) = false := beq_eq_false_iff_ne.mpr c15
    have c15b1 : (t531 != 0) = true := bne_iff_ne.mpr c15
    simp only [Option.some.injEq, Prod.mk.injEq] at H
    obtain ⟨rfl, rfl, rfl, rfl⟩ := H
    go_wp2
    refine bodyPost_ret (results_list (rs := [.tmp 6, .tmp 7, .tmp 8, .tmp 9]) rfl (by simp) (.tmp (.tmp (.tmp (.tmp .nil))))) rfl ?_
    exact ⟨_, _, by first | rfl | (simp [*] <;> rfl), by first | exact Kd.S_nil _ _ _ _ _ | exact Kd.N_nil _ _ _ _ _ | exact Kd.V_nil _ _ _ _ _ | exact Kd.Q_nil _ _ _ _ _ | exact Kd.R_nil _ _ _ _ _, by first | exact Kd.S_nil _ _ _ _ _ | exact Kd.N_nil _ _ _ _ _ | exact Kd.V_nil _ _ _ _ _ | exact Kd.Q_nil _ _ _ _ _ | exact Kd.R_nil _ _ _ _ _, bl HB⟩
   rw [if_pos c15] at H
   have c15b0 : (t531 == 0) = true := beq_iff_eq.mpr c15
   have c15b1 : (t531 != 0) = false := bne_eq_false_iff_eq.mpr c15
   clear c15
   obtain ⟨⟨t533, t536, t539⟩, A160, H⟩ := qb H
   try dsimp only at H
   have A16 := o_ A160
   clear A160
   obtain ⟨t540, A170, H⟩ := qb H
   try dsimp only at H
   have A17 := o_ A170
   clear A170
   obtain ⟨t543, A180, H⟩ := qb H
   try dsimp only at H
   have A18 := o_ A180
   clear A180
   simp only [Option.some.injEq, Prod.mk.injEq] at H
   obtain ⟨rfl, rfl, rfl, rfl⟩ := H
   have z19 := box7 BK530
   go_wp2_with (first | (go_at_call 69; (with_reducible refine (r_take.calls kj4 (fun k_ => k_ < w.heap.size) _ _ l0 a1 a2_0 a2_1 a2_2 a2_3 a2_4 a2_5 (fun k_ => k_ < w.heap.size) _ _ l2_6 t533 t536 t539 _ ?side1 ?side2 A16.out).mono ?_); (case side1 => exact Kd.V_mk HC0.out (Kd.F_below (Kd.C_F k33_heap HR0.out) (bl HB))); (case side2 => exact Kd.V_mk HC2_6.out (Kd.F_below (Kd.C_F (Kd.heap_int .i64) HR2_6.out) (bl HB))); rintro e w20 ⟨v534, v537, rfl, ho0, ho1, hb⟩; have n0_ := o_ (Kd.V_lower (Kd.V_mono (ok' := fun k_ => k_ ≠ gb530) ho0 (fun k_ hk_ => Or.elim hk_ (fun hs_ => Or.elim hs_ (fun hs_ => fun e_ => Nat.not_le.2 hs_ (by rw [e_]; exact GW530.out)) (fun hs_ => fun e_ => Nat.not_le.2 hs_ (by rw [e_]; exact GW530.out))) (fun hn_ => (Kd.freshB (g := gb530) (o := .cells #[.int .i64 a2_0, .int .i64 a2_1, .int .i64 a2_2, .int .i64 a2_3, .string a2_4, .string a2_5, .slice A2_6 l2_6.length c2_6] 33 (0, 0)) (bu BK530) k_ hn_)))) (below_size (bl HB))); have n1_ := o_ (Kd.V_lower (Kd.V_mono (ok' := fun k_ => k_ ≠ gb530) ho1 (fun k_ hk_ => Or.elim hk_ (fun hs_ => Or.elim hs_ (fun hs_ => fun e_ => Nat.not_le.2 hs_ (by rw [e_]; exact GW530.out)) (fun hs_ => fun e_ => Nat.not_le.2 hs_ (by rw [e_]; exact GW530.out))) (fun hn_ => (Kd.freshB (g := gb530) (o := .cells #[.int .i64 a2_0, .int .i64 a2_1, .int .i64 a2_2, .int .i64 a2_3, .string a2_4, .string a2_5, .slice A2_6 l2_6.length c2_6] 33 (0, 0)) (bu BK530) k_ hn_)))) (below_size (bl HB))); have n2_ := o_ (blk_below (g := gb530) (o := .cells #[.int .i64 a2_0, .int .i64 a2_1, .int .i64 a2_2, .int .i64 a2_3, .string a2_4, .string a2_5, .slice A2_6 l2_6.length c2_6] 33 (0, 0)) (bu BK530) hb); have n3_ := o_ (below_step (bl HB) hb); clear BK530; clear HB; have HO535 := n0_; have HO538 := n1_; have BK530 := n2_; have HB := n3_; clear n0_ n1_ n2_ n3_; (try clear hb); (try clear ho0); (try clear ho1); obtain ⟨Ao21, co21, eo21⟩ := Kd.V_slice HO535.out; subst eo21) | (go_at_call 42; (with_reducible refine (r_own.calls kj4 _ _ t533 t540 _ ?side1 ?side2 A17.out).mono ?_); (case side1 => exact Cu ⟨(Kd.V_reads' HO535.out).2.2⟩); (case side2 => exact (Kd.V_reads' HO535.out).2.1); rintro e w22 ⟨v541, rfl, ho0, hb⟩; have n0_ := o_ (Kd.V_elder' (Vu HO535) (Kd.S_base ho0) hb); have n1_ := o_ (Kd.V_elder' (Vu HO538) (Kd.S_base ho0) hb); have n2_ := o_ (Kd.S_lower (Kd.S_newB ho0 (g := gb530) (o := .cells #[.int .i64 a2_0, .int .i64 a2_1, .int .i64 a2_2, .int .i64 a2_3, .string a2_4, .string a2_5, .slice A2_6 l2_6.length c2_6] 33 (0, 0)) (bu BK530)) (below_size (bl HB))); have n3_ := o_ (blk_below (g := gb530) (o := .cells #[.int .i64 a2_0, .int .i64 a2_1, .int .i64 a2_2, .int .i64 a2_3, .string a2_4, .string a2_5, .slice A2_6 l2_6.length c2_6] 33 (0, 0)) (bu BK530) hb); have n4_ := o_ (below_step (bl HB) hb); clear HO535; clear HO538; clear BK530; clear HB; have HO535 := n0_; have HO538 := n1_; have HO542 := n2_; have BK530 := n3_; have HB := n4_; clear n0_ n1_ n2_ n3_ n4_; (try clear hb); (try clear ho0); obtain ⟨Ao23, co23, eo23⟩ := Kd.V_slice HO538.out; subst eo23) | (go_at_call 42; (with_reducible refine (r_own.calls kj4 _ _ t536 t543 _ ?side1 ?side2 A18.out).mono ?_); (case side1 => exact Cu ⟨(Kd.V_reads' HO538.out).2.2⟩); (case side2 => exact (Kd.V_reads' HO538.out).2.1); rintro e w24 ⟨v544, rfl, ho0, hb⟩; have n0_ := o_ (Kd.V_elder' (Vu HO535) (Kd.S_base ho0) hb); have n1_ := o_ (Kd.V_elder' (Vu HO538) (Kd.S_base ho0) hb); have n2_ := o_ (Kd.S_elder' (Su HO542) (Kd.S_base ho0) hb); have n3_ := o_ (Kd.S_lower (Kd.S_newB (Kd.S_new' ho0 (Kd.S_lt (Su HO542))) (g := gb530) (o := .cells #[.int .i64 a2_0, .int .i64 a2_1, .int .i64 a2_2, .int .i64 a2_3, .string a2_4, .string a2_5, .slice A2_6 l2_6.length c2_6] 33 (0, 0)) (bu BK530)) (below_size (bl HB))); have n4_ := o_ (blk_below (g := gb530) (o := .cells #[.int .i64 a2_0, .int .i64 a2_1, .int .i64 a2_2, .int .i64 a2_3, .string a2_4, .string a2_5, .slice A2_6 l2_6.length c2_6] 33 (0, 0)) (bu BK530) hb); have n5_ := o_ (below_step (bl HB) hb); clear HO535; clear HO538; clear HO542; clear BK530; clear HB; have HO535 := n0_; have HO538 := n1_; have HO542 := n2_; have HO545 := n3_; have BK530 := n4_; have HB := n5_; clear n0_ n1_ n2_ n3_ n4_ n5_; (try clear hb); (try clear ho0)))
   refine bodyPost_ret (results_list (rs := [.tmp 6, .tmp 7, .tmp 8, .tmp 9]) rfl (by simp) (.tmp (.tmp (.tmp (.tmp .nil))))) rfl ?_
   exact ⟨_, _, by first | rfl | (simp [*] <;> rfl), by (with_reducible repeat (first | apply Kd.S_alloc | apply Kd.S_drewN | apply Kd.S_drew)); exact Kd.S_mono HO542.out (fun _ hk => hk.2), by (with_reducible repeat (first | apply Kd.S_alloc | apply Kd.S_drewN | apply Kd.S_drew)); exact Kd.S_mono HO545.out (fun _ hk => hk.1.2), bl HB⟩
mutual
def r_Break.j0 : Nat → List (S33) → Int → Int → Int → Bool → Int → Int → Int → Int → ByteArray → ByteArray → List Int → Option ((List (List (S33))) × Int)
 | 0, _, _, _, _, _, _, _, _, _, _, _, _ => none
 | k + 1, x0, x1, x2, x10, x40, gg0, gg1, gg2, gg3, gg4, gg5, gg6 => if x40 = true then (some (([] : List (List (S33))), 1)) else (if x10 = 0 then (r_Break.l0 k x0 x1 x2 ([] : List (List (S33))) gg0 gg1 gg2 gg3 gg4 gg5 gg6) else (some (([] : List (List (S33))), x10)))
def r_Break.l0 : Nat → List (S33) → Int → Int → List (List (S33)) → Int → Int → Int → Int → ByteArray → ByteArray → List Int → Option ((List (List (S33))) × Int)
 | 0, _, _, _, _, _, _, _, _, _, _, _ => none
 | k + 1, x0, x1, x2, x11, gg0, gg1, gg2, gg3, gg4, gg5, gg6 => (r_front.f k x0).bind fun t549 => (if (t549.length : Int) > 0 then (if (x11.length : Int) = 0 then ((r_take.f k x0 x1 gg0 gg1 gg2 gg3 gg4 gg5 gg6).bind fun bt552 => ((r_own.f k bt552.1).bind fun t559 => (if x11.length < 5864062014805 then (r_Break.l0 k bt552.2.1 x1 x2 (x11 ++ [t559]) gg0 gg1 gg2 gg3 gg4 gg5 gg6) else (none)))) else ((r_take.f k x0 x2 gg0 gg1 gg2 gg3 gg4 gg5 gg6).bind fun bt565 => ((r_own.f k bt565.1).bind fun t572 => (if x11.length < 5864062014805 then (r_Break.l0 k bt565.2.1 x1 x2 (x11 ++ [t572]) gg0 gg1 gg2 gg3 gg4 gg5 gg6) else (none))))) else (some (x11, 0)))
end
def r_Break.f (k : Nat) (l0 : List (S33)) (a1 : Int) (a2 : Int) (a3_0 : Int) (a3_1 : Int) (a3_2 : Int) (a3_3 : Int) (a3_4 : ByteArray) (a3_5 : ByteArray) (l3_6 : List Int) : Option ((List (List (S33))) × Int) := (r_check.f k l0).bind fun t547 => (if t547 = 1 then (r_Break.j0 k l0 a1 a2 t547 true a3_0 a3_1 a3_2 a3_3 a3_4 a3_5 l3_6) else (if a1 < 0 then (r_Break.j0 k l0 a1 a2 t547 true a3_0 a3_1 a3_2 a3_3 a3_4 a3_5 l3_6) else (if a1 > 10000000 then (r_Break.j0 k l0 a1 a2 t547 true a3_0 a3_1 a3_2 a3_3 a3_4 a3_5 l3_6) else (if a2 < 0 then (r_Break.j0 k l0 a1 a2 t547 true a3_0 a3_1 a3_2 a3_3 a3_4 a3_5 l3_6) else (if a2 > 10000000 then (r_Break.j0 k l0 a1 a2 t547 true a3_0 a3_1 a3_2 a3_3 a3_4 a3_5 l3_6) else ((r_isHyphen.f k a3_0 a3_1 a3_2 a3_3 a3_4 a3_5 l3_6).bind fun t548 => (r_Break.j0 k l0 a1 a2 t547 (!t548) a3_0 a3_1 a3_2 a3_3 a3_4 a3_5 l3_6)))))))
theorem r_Break.calls (k : Nat) (P0_ : Nat → Prop) (A0 : Option Addr) (c0 : Nat) (l0 : List (S33)) (a1 : Int) (a2 : Int) (a3_0 : Int) (a3_1 : Int) (a3_2 : Int) (a3_3 : Int) (a3_4 : ByteArray) (a3_5 : ByteArray) (P3_6_ : Nat → Prop) (A3_6 : Option Addr) (c3_6 : Nat) (l3_6 : List Int) (r1 : List (List (S33))) (r2 : Int) (w : World) (hs0 : Kd.V k33 33 w w.heap.size (fun k_ => P0_ k_) (.slice A0 l0.length c0) l0) (hs3_6 : Kd.V (Kd.int .i64) 3 w w.heap.size (fun k_ => P3_6_ k_) (.slice A3_6 l3_6.length c3_6) l3_6) (h : r_Break.f k l0 a1 a2 a3_0 a3_1 a3_2 a3_3 a3_4 a3_5 l3_6 = some (r1, r2)) :
  Calls Try.prog 45 #[.slice A0 l0.length c0, .int .i64 a1, .int .i64 a2, .agg #[.int .i64 a3_0, .int .i64 a3_1, .int .i64 a3_2, .int .i64 a3_3, .string a3_4, .string a3_5, .slice A3_6 l3_6.length c3_6]] w fun e w' => ∃ v0_ : Value, e = .returned (.tuple #[v0_, .int .i64 r2]) ∧ Kd.R (Kd.slice 33 k33) 23 w' w.heap.size (fun k_ => (w.heap.size ≤ k_)) v0_ r1 ∧ Below w.heap.size w w' := by
 have hu33 := Try.underlying33
 have HO0 := o_ (show Kd.V k33 33 w w.heap.size (fun k_ => ((P0_ k_ ∨ P3_6_ k_) ∨ w.heap.size ≤ k_)) (.slice A0 l0.length c0) l0 from Kd.V_mono hs0 (fun k_ hk => .inl (.inl hk)))
 have HO3_6 := o_ (show Kd.V (Kd.int .i64) 3 w w.heap.size (fun k_ => ((P0_ k_ ∨ P3_6_ k_) ∨ w.heap.size ≤ k_)) (.slice A3_6 l3_6.length c3_6) l3_6 from Kd.V_mono hs3_6 (fun k_ hk => .inl (.inr hk)))
 have HB := o_ (Below.refl w.heap.size w)
 have H : ((r_check.f k l0).bind fun t547 => (if t547 = 1 then (r_Break.j0 k l0 a1 a2 t547 true a3_0 a3_1 a3_2 a3_3 a3_4 a3_5 l3_6) else (if a1 < 0 then (r_Break.j0 k l0 a1 a2 t547 true a3_0 a3_1 a3_2 a3_3 a3_4 a3_5 l3_6) else (if a1 > 10000000 then (r_Break.j0 k l0 a1 a2 t547 true a3_0 a3_1 a3_2 a3_3 a3_4 a3_5 l3_6) else (if a2 < 0 then (r_Break.j0 k l0 a1 a2 t547 true a3_0 a3_1 a3_2 a3_3 a3_4 a3_5 l3_6) else (if a2 > 10000000 then (r_Break.j0 k l0 a1 a2 t547 true a3_0 a3_1 a3_2 a3_3 a3_4 a3_5 l3_6) else ((r_isHyphen.f k a3_0 a3_1 a3_2 a3_3 a3_4 a3_5 l3_6).bind fun t548 => (r_Break.j0 k l0 a1 a2 t547 (!t548) a3_0 a3_1 a3_2 a3_3 a3_4 a3_5 l3_6)))))))) = some (r1, r2) := h
 clear h
 obtain ⟨t547, A50, H⟩ := qb H
 try dsimp only at H
 have A5 := o_ A50
 clear A50
 have HC6 := o_ H
 clear H
 go_enter Try.func45, Try.ntmps45
 go_upto_region 2 with (first | ((with_reducible refine gate_dst (N := 7) rfl ?_); refine box_event ?hg (N := 7) ?hd (cs := #[.int .i64 a3_0, .int .i64 a3_1, .int .i64 a3_2, .int .i64 a3_3, .string a3_4, .string a3_5, .slice A3_6 l3_6.length c3_6]) (t := 33) ?hr ?_; (case hd => rfl); (case hg => rfl); (case hr => first | (go_simp; done) | (go_simp; rfl)); intro gb546 hg w7 hbox hb; have n0_ := o_ (Kd.V_below (Kd.V_elderB (Vu HO0) gb546 (Nat.le_of_eq hg.symm)) hb); have n1_ := o_ (Kd.V_below (Kd.V_elderB (Vu HO3_6) gb546 (Nat.le_of_eq hg.symm)) hb); have n2_ := o_ (below_step (bl HB) hb); have n3_ := o_ (hbox); have n4_ := o_ ((by rw [hg]; exact (below_size (bl HB)) : w.heap.size ≤ gb546)); have n5_ := o_ ((by rw [hg]; exact (below_size (bl HB)) : w.heap.size ≤ gb546)); clear HO0; clear HO3_6; clear HB; have HO0 := n0_; have HO3_6 := n1_; have HB := n2_; have BK546 := n3_; have GW546 := n4_; have GE546 := n5_; clear n0_ n1_ n2_ n3_ n4_ n5_; clear hb hbox hg) | (go_at_call 67; (with_reducible refine (r_check.calls k _ _ l0 t547 _ ?side1 ?side2 A5.out).mono ?_); (case side1 => exact Cu ⟨(Kd.V_reads' HO0.out).2.2⟩); (case side2 => exact (Kd.V_reads' HO0.out).2.1); rintro e w8 ⟨rfl, hb⟩; have n0_ := o_ (Kd.V_below (Vu HO0) hb); have n1_ := o_ (Kd.V_below (Vu HO3_6) hb); have n2_ := o_ (blk_below (g := gb546) (o := .cells #[.int .i64 a3_0, .int .i64 a3_1, .int .i64 a3_2, .int .i64 a3_3, .string a3_4, .string a3_5, .slice A3_6 l3_6.length c3_6] 33 (0, 0)) (bu BK546) hb); have n3_ := o_ (below_step (bl HB) hb); clear HO0; clear HO3_6; clear BK546; clear HB; have HO0 := n0_; have HO3_6 := n1_; have BK546 := n2_; have HB := n3_; clear n0_ n1_ n2_ n3_; (try clear hb)))
 (try simp only [Act.put, List.setIfInBounds_toArray, List.set_cons_zero, List.set_cons_succ])
 go_cut [40] (fun v40 wc => ∃ (kq : Nat) (x40_5 : Bool), v40 = .bool x40_5 ∧ As (r_Break.j0 kq l0 a1 a2 t547 x40_5 a3_0 a3_1 a3_2 a3_3 a3_4 a3_5 l3_6 = some (r1, r2)) ∧ As (kq ≤ k) ∧ As (Kd.V k33 33 wc w.heap.size (fun k_ => ((P0_ k_ ∨ P3_6_ k_) ∨ w.heap.size ≤ k_) ∧ k_ ≠ gb546) (.slice A0 l0.length c0) l0) ∧ As (Kd.V (Kd.int .i64) 3 wc w.heap.size (fun k_ => ((P0_ k_ ∨ P3_6_ k_) ∨ w.heap.size ≤ k_) ∧ k_ ≠ gb546) (.slice A3_6 l3_6.length c3_6) l3_6) ∧ As (wc.heap[gb546]? = some (.cells #[.int .i64 a3_0, .int .i64 a3_1, .int .i64 a3_2, .int .i64 a3_3, .string a3_4, .string a3_5, (.slice A3_6 l3_6.length c3_6)] 33 (0, 0))) ∧ As (Below w.heap.size w wc))
 case first =>
  have H := HC6.out
  clear HC6
  by_cases c9 : t547 = 1
  ·rw [if_pos c9] at H
   have c9b0 : (t547 == 1) = true := beq_iff_eq.mpr c9
   have c9b1 : (t547 != 1) = false := bne_eq_false_iff_eq.mpr c9
   clear c9
   (first | rw [c9b0] | (simp only [i64_w, i32_w]; rw [c9b0]) | skip)
   have H' := o_ H
   clear H
   go_wp2
   go_meet
   case rel => exact ⟨_, (true), (by first | rfl | simp [*]), H', ⟨by first | omega | exact Nat.le_refl _⟩, ⟨Vu HO0⟩, ⟨Vu HO3_6⟩, ⟨bu BK546⟩, ⟨bl HB⟩⟩
  rw [if_neg c9] at H
  have c9b0 : (t547 == 1) = false := beq_eq_false_iff_ne.mpr c9
  have c9b1 : (t547 != 1) = true := bne_iff_ne.mpr c9
  (first | rw [c9b0] | (simp only [i64_w, i32_w]; rw [c9b0]) | skip)
  by_cases c10 : a1 < 0
  ·rw [if_pos c10] at H
   have c10b0 := decide_eq_true c10
   clear c10
   have H' := o_ H
   clear H
   go_wp2
   go_meet
   case rel => exact ⟨_, (true), (by first | rfl | simp [*]), H', ⟨by first | omega | exact Nat.le_refl _⟩, ⟨Vu HO0⟩, ⟨Vu HO3_6⟩, ⟨bu BK546⟩, ⟨bl HB⟩⟩
  rw [if_neg c10] at H
  have c10b0 := decide_eq_false c10
  clear c10
  by_cases c11 : a1 > 10000000
  ·rw [if_pos c11] at H
   have c11b0 : decide (10000000 < a1) = true := decide_eq_true c11
   clear c11
   have H' := o_ H
   clear H
   go_wp2
   go_meet
   case rel => exact ⟨_, (true), (by first | rfl | simp [*]), H', ⟨by first | omega | exact Nat.le_refl _⟩, ⟨Vu HO0⟩, ⟨Vu HO3_6⟩, ⟨bu BK546⟩, ⟨bl HB⟩⟩
  rw [if_neg c11] at H
  have c11b0 : decide (10000000 < a1) = false := decide_eq_false c11
  clear c11
  by_cases c12 : a2 < 0
  ·rw [if_pos c12] at H
   have c12b0 := decide_eq_true c12
   clear c12
   have H' := o_ H
   clear H
   go_wp2
   go_meet
   case rel => exact ⟨_, (true), (by first | rfl | simp [*]), H', ⟨by first | omega | exact Nat.le_refl _⟩, ⟨Vu HO0⟩, ⟨Vu HO3_6⟩, ⟨bu BK546⟩, ⟨bl HB⟩⟩
  rw [if_neg c12] at H
  have c12b0 := decide_eq_false c12
  clear c12
  by_cases c13 : a2 > 10000000
  ·rw [if_pos c13] at H
   have c13b0 : decide (10000000 < a2) = true := decide_eq_true c13
   clear c13
   have H' := o_ H
   clear H
   go_wp2
   go_meet
   case rel => exact ⟨_, (true), (by first | rfl | simp [*]), H', ⟨by first | omega | exact Nat.le_refl _⟩, ⟨Vu HO0⟩, ⟨Vu HO3_6⟩, ⟨bu BK546⟩, ⟨bl HB⟩⟩
  rw [if_neg c13] at H
  have c13b0 : decide (10000000 < a2) = false := decide_eq_false c13
  clear c13
  obtain ⟨t548, A140, H⟩ := qb H
  try dsimp only at H
  have A14 := o_ A140
  clear A140
  have H' := o_ H
  clear H
  have z15 := box7 BK546
  go_wp2_with (first | (go_at_call 68; (with_reducible refine (r_isHyphen.calls k a3_0 a3_1 a3_2 a3_3 a3_4 a3_5 _ _ l3_6 t548 _ ?side1 ?side2 A14.out).mono ?_); (case side1 => exact Cu ⟨(Kd.V_reads' HO3_6.out).2.2⟩); (case side2 => exact (Kd.V_reads' HO3_6.out).2.1); rintro e w16 ⟨rfl, hb⟩; have n0_ := o_ (Kd.V_below (Vu HO0) hb); have n1_ := o_ (Kd.V_below (Vu HO3_6) hb); have n2_ := o_ (blk_below (g := gb546) (o := .cells #[.int .i64 a3_0, .int .i64 a3_1, .int .i64 a3_2, .int .i64 a3_3, .string a3_4, .string a3_5, .slice A3_6 l3_6.length c3_6] 33 (0, 0)) (bu BK546) hb); have n3_ := o_ (below_step (bl HB) hb); clear HO0; clear HO3_6; clear BK546; clear HB; have HO0 := n0_; have HO3_6 := n1_; have BK546 := n2_; have HB := n3_; clear n0_ n1_ n2_ n3_; (try clear hb)))
  go_meet
  case rel => exact ⟨_, (!t548), (by first | rfl | simp [*]), H', ⟨by first | omega | exact Nat.le_refl _⟩, ⟨Vu HO0⟩, ⟨Vu HO3_6⟩, ⟨bu BK546⟩, ⟨bl HB⟩⟩
 case rest =>
  clear HC6
  try clear z15
  obtain ⟨kq, x40_5, rfl, HA, HJ5, HO_0, HO_547006, BK546, HB⟩ := hcut
  cases kq with
  | zero => exact absurd HA.out (by simp [r_Break.j0])
  | succ kj5 =>
   have H := HA.out
   clear HA
   simp only [r_Break.j0] at H
   by_cases c17 : x40_5 = true
   ·subst c17
    have H1 : (some (([] : List (List (S33))), 1)) = some (r1, r2) := by rw [if_pos rfl] at H; exact H
    clear H
    have H := H1
    clear H1
    simp only [Option.some.injEq, Prod.mk.injEq] at H
    obtain ⟨rfl, rfl⟩ := H
    go_wp2
    go_ret2
    exact ⟨_, by first | rfl | (simp [*] <;> rfl), by first | exact Kd.R_nil _ _ _ _ _ | exact Kd.N_nil _ _ _ _ _ | exact Kd.V_nil _ _ _ _ _ | exact Kd.Q_nil _ _ _ _ _ | exact Kd.S_nil _ _ _ _ _, bl HB⟩
   replace c17 := Bool.eq_false_iff.mpr c17
   subst c17
   have H1 : (if t547 = 0 then (r_Break.l0 kj5 l0 a1 a2 ([] : List (List (S33))) a3_0 a3_1 a3_2 a3_3 a3_4 a3_5 l3_6) else (some (([] : List (List (S33))), t547))) = some (r1, r2) := by rw [if_neg (show ¬ (false = true) by decide)] at H; exact H
   clear H
   have H := H1
   clear H1
   by_cases c18 : t547 = 0
   rotate_left
   ·rw [if_neg c18] at H
    have c18b0 : (t547 == 0) = false := beq_eq_false_iff_ne.mpr c18
    have c18b1 : (t547 != 0) = true := bne_iff_ne.mpr c18
    simp only [Option.some.injEq, Prod.mk.injEq] at H
    obtain ⟨rfl, rfl⟩ := H
    go_wp2
    go_ret2
    exact ⟨_, by first | rfl | (simp [*] <;> rfl), by first | exact Kd.R_nil _ _ _ _ _ | exact Kd.N_nil _ _ _ _ _ | exact Kd.V_nil _ _ _ _ _ | exact Kd.Q_nil _ _ _ _ _ | exact Kd.S_nil _ _ _ _ _, bl HB⟩
   rw [if_pos c18] at H
   have c18b0 : (t547 == 0) = true := beq_iff_eq.mpr c18
   have c18b1 : (t547 != 0) = false := bne_eq_false_iff_eq.mpr c18
   clear c18
   have H' := o_ H
   clear H
   go_wp2
   go_loopg [0, 11] kj5 (fun kq v0 v11 w' => ∃ (x0_2 : List (S33)) (x11_2 : List (List (S33))), As (r_Break.l0 kq x0_2 a1 a2 x11_2 a3_0 a3_1 a3_2 a3_3 a3_4 a3_5 l3_6 = some (r1, r2)) ∧ As (kq ≤ kj5) ∧ As (Kd.V k33 33 w' w.heap.size (fun k_ => ((P0_ k_ ∨ P3_6_ k_) ∨ w.heap.size ≤ k_) ∧ some k_ ≠ (v11 : Value).ownBlock ∧ k_ ≠ gb546) v0 x0_2) ∧ As (Kd.R (Kd.slice 33 k33) 23 w' w.heap.size (fun k_ => (w.heap.size ≤ k_) ∧ k_ ≠ gb546) v11 x11_2) ∧ As (Kd.V (Kd.int .i64) 3 w' w.heap.size (fun k_ => ((P0_ k_ ∨ P3_6_ k_) ∨ w.heap.size ≤ k_) ∧ some k_ ≠ (v11 : Value).ownBlock ∧ k_ ≠ gb546) (.slice A3_6 l3_6.length c3_6) l3_6) ∧ As (w'.heap[gb546]? = some (.cells #[.int .i64 a3_0, .int .i64 a3_1, .int .i64 a3_2, .int .i64 a3_3, .string a3_4, .string a3_5, (.slice A3_6 l3_6.length c3_6)] 33 (0, 0))) ∧ As (Below w.heap.size w w'))
   case atStart => exact ⟨(l0), (([] : List (List (S33)))), H', ⟨Nat.le_refl _⟩, ⟨by (with_reducible repeat (first | apply Kd.V_alloc | apply Kd.V_drewN | apply Kd.V_drew)); exact Kd.V_mono HO_0.out (fun _ hk => ⟨hk.1, ⟨(by simp [Value.ownBlock]), hk.2⟩⟩)⟩, ⟨by first | exact Kd.R_nil _ _ _ _ _ | exact Kd.N_nil _ _ _ _ _ | exact Kd.V_nil _ _ _ _ _ | exact Kd.Q_nil _ _ _ _ _ | exact Kd.S_nil _ _ _ _ _⟩, ⟨by (with_reducible repeat (first | apply Kd.V_alloc | apply Kd.V_drewN | apply Kd.V_drew)); exact Kd.V_mono HO_547006.out (fun _ hk => ⟨hk.1, ⟨(by simp [Value.ownBlock]), hk.2⟩⟩)⟩, ⟨bu BK546⟩, ⟨bl HB⟩⟩
   case round =>
    clear H'
    try clear z15
    obtain ⟨x0_2, x11_2, HA, HK2, HO_0, HO_11, HO_547006, BK546, HB⟩ := hrel
    cases gk with
    | zero => exact absurd HA.out (by simp [r_Break.l0])
    | succ k2 =>
     have H := HA.out
     clear HA
     simp only [r_Break.l0] at H
     obtain ⟨t549, A190, H⟩ := qb H
     try dsimp only at H
     have A19 := o_ A190
     clear A190
     by_cases c20 : (t549.length : Int) > 0
     rotate_left
     ·rw [if_neg c20] at H
      have c20b0 : decide (0 < (t549.length : Int)) = false := decide_eq_false c20
      have c20b1 : decide (0 < t549.length) = false := decide_eq_false (by omega)
      clear c20
      simp only [Option.some.injEq, Prod.mk.injEq] at H
      obtain ⟨rfl, rfl⟩ := H
      obtain ⟨Ao48, co48, eo48⟩ := Kd.V_slice HO_0.out
      subst eo48
      go_wp2_with (first | (go_at_call 70; (with_reducible refine (r_front.calls k2 (fun k_ => (((P0_ k_ ∨ P3_6_ k_) ∨ w.heap.size ≤ k_) ∧ (some k_ ≠ (u11 : Value).ownBlock ∧ k_ ≠ gb546))) _ _ x0_2 t549 _ ?side1 A19.out).mono ?_); (case side1 => exact HO_0.out); rintro e w49 ⟨v550, rfl, ho0, hb⟩; have n0_ := o_ (Kd.V_below (Vu HO_0) hb); have n1_ := o_ (Kd.R_below (Ru HO_11) hb); have n2_ := o_ (Kd.V_below (Vu HO_547006) hb); have n3_ := o_ (Kd.V_lower (Kd.V_mono (ok' := fun k_ => ((P0_ k_ ∨ P3_6_ k_) ∨ w.heap.size ≤ k_) ∧ some k_ ≠ (u11 : Value).ownBlock ∧ k_ ≠ gb546) ho0 (fun k_ hk_ => ⟨Or.elim hk_ (fun hs_ => hs_.1) (fun hn_ => (.inr (Nat.le_trans (below_size (bl HB)) hn_))), Or.elim hk_ (fun hs_ => hs_.2.1) (fun hn_ => (Kd.fresh' (Kd.R_lt (Ru HO_11)) k_ hn_)), Or.elim hk_ (fun hs_ => hs_.2.2) (fun hn_ => (Kd.freshB (g := gb546) (o := .cells #[.int .i64 a3_0, .int .i64 a3_1, .int .i64 a3_2, .int .i64 a3_3, .string a3_4, .string a3_5, .slice A3_6 l3_6.length c3_6] 33 (0, 0)) (bu BK546) k_ hn_))⟩)) (below_size (bl HB))); have n4_ := o_ (blk_below (g := gb546) (o := .cells #[.int .i64 a3_0, .int .i64 a3_1, .int .i64 a3_2, .int .i64 a3_3, .string a3_4, .string a3_5, .slice A3_6 l3_6.length c3_6] 33 (0, 0)) (bu BK546) hb); have n5_ := o_ (below_step (bl HB) hb); clear HO_0; clear HO_11; clear HO_547006; clear BK546; clear HB; have HO_0 := n0_; have HO_11 := n1_; have HO_547006 := n2_; have HO551 := n3_; have BK546 := n4_; have HB := n5_; clear n0_ n1_ n2_ n3_ n4_ n5_; (try clear hb); (try clear ho0); obtain ⟨Ao50, co50, eo50⟩ := Kd.V_slice HO551.out; subst eo50))
      go_ret2
      exact ⟨_, by first | rfl | (simp [*] <;> rfl), by (with_reducible repeat (first | apply Kd.R_alloc | apply Kd.R_drewN | apply Kd.R_drew)); exact Kd.R_mono HO_11.out (fun _ hk => hk.1), bl HB⟩
     rw [if_pos c20] at H
     have c20b0 : decide (0 < (t549.length : Int)) = true := decide_eq_true c20
     have c20b1 : decide (0 < t549.length) = true := decide_eq_true (by omega)
     clear c20
     by_cases c21 : (x11_2.length : Int) = 0
     ·rw [if_pos c21] at H
      have c21b0 : ((x11_2.length : Int) == 0) = true := beq_iff_eq.mpr c21
      have c21b1 : ((x11_2.length : Int) != 0) = false := bne_eq_false_iff_eq.mpr c21
      clear c21
      obtain ⟨⟨t552, t555, t558⟩, A220, H⟩ := qb H
      try dsimp only at H
      have A22 := o_ A220
      clear A220
      obtain ⟨t559, A230, H⟩ := qb H
      try dsimp only at H
      have A23 := o_ A230
      clear A230
      by_cases c24 : x11_2.length < 5864062014805
      rotate_left
      ·rw [if_neg c24] at H
       exact absurd H (by simp)
      rw [if_pos c24] at H
      have LMc24 := o_ c24
      clear c24
      obtain ⟨y562, hy562⟩ : ∃ y_ : List (List (S33)), y_ = (x11_2 ++ [t559]) := ⟨_, rfl⟩
      replace H : (r_Break.l0 k2 t555 a1 a2 y562 a3_0 a3_1 a3_2 a3_3 a3_4 a3_5 l3_6) = some (r1, r2) := by first | (rw [hy562]; with_reducible exact H) | (have H2_ := (Option.bind_some _ _).symm.trans H; rw [hy562]; with_reducible exact H2_) | (have H2_ := (Option.bind_some _ _).symm.trans H; with_reducible exact H2_) | with_reducible exact H | (rw [hy562]; exact H) | exact H
      have Ny562 := o_ hy562
      clear hy562
      have H' := o_ H
      clear H
      obtain ⟨Ao25, co25, eo25⟩ := Kd.V_slice HO_0.out
      subst eo25
      go_wp2_with (first | (go_at_call 70; (with_reducible refine (r_front.calls k2 (fun k_ => (((P0_ k_ ∨ P3_6_ k_) ∨ w.heap.size ≤ k_) ∧ (some k_ ≠ (u11 : Value).ownBlock ∧ k_ ≠ gb546))) _ _ x0_2 t549 _ ?side1 A19.out).mono ?_); (case side1 => exact HO_0.out); rintro e w26 ⟨v550, rfl, ho0, hb⟩; have n0_ := o_ (Kd.V_below (Vu HO_0) hb); have n1_ := o_ (Kd.R_below (Ru HO_11) hb); have n2_ := o_ (Kd.V_below (Vu HO_547006) hb); have n3_ := o_ (Kd.V_lower (Kd.V_mono (ok' := fun k_ => ((P0_ k_ ∨ P3_6_ k_) ∨ w.heap.size ≤ k_) ∧ some k_ ≠ (u11 : Value).ownBlock ∧ k_ ≠ gb546) ho0 (fun k_ hk_ => ⟨Or.elim hk_ (fun hs_ => hs_.1) (fun hn_ => (.inr (Nat.le_trans (below_size (bl HB)) hn_))), Or.elim hk_ (fun hs_ => hs_.2.1) (fun hn_ => (Kd.fresh' (Kd.R_lt (Ru HO_11)) k_ hn_)), Or.elim hk_ (fun hs_ => hs_.2.2) (fun hn_ => (Kd.freshB (g := gb546) (o := .cells #[.int .i64 a3_0, .int .i64 a3_1, .int .i64 a3_2, .int .i64 a3_3, .string a3_4, .string a3_5, .slice A3_6 l3_6.length c3_6] 33 (0, 0)) (bu BK546) k_ hn_))⟩)) (below_size (bl HB))); have n4_ := o_ (blk_below (g := gb546) (o := .cells #[.int .i64 a3_0, .int .i64 a3_1, .int .i64 a3_2, .int .i64 a3_3, .string a3_4, .string a3_5, .slice A3_6 l3_6.length c3_6] 33 (0, 0)) (bu BK546) hb); have n5_ := o_ (below_step (bl HB) hb); clear HO_0; clear HO_11; clear HO_547006; clear BK546; clear HB; have HO_0 := n0_; have HO_11 := n1_; have HO_547006 := n2_; have HO551 := n3_; have BK546 := n4_; have HB := n5_; clear n0_ n1_ n2_ n3_ n4_ n5_; (try clear hb); (try clear ho0); obtain ⟨Ao27, co27, eo27⟩ := Kd.V_slice HO551.out; subst eo27; obtain ⟨Ao28, co28, eo28⟩ := Kd.R_slice HO_11.out; subst eo28; have z29 := box7 BK546) | (go_at_call 69; (with_reducible refine (r_take.calls k2 (fun k_ => (((P0_ k_ ∨ P3_6_ k_) ∨ w.heap.size ≤ k_) ∧ (some k_ ≠ (.slice Ao28 x11_2.length co28 : Value).ownBlock ∧ k_ ≠ gb546))) _ _ x0_2 a1 a3_0 a3_1 a3_2 a3_3 a3_4 a3_5 (fun k_ => (((P0_ k_ ∨ P3_6_ k_) ∨ w.heap.size ≤ k_) ∧ (some k_ ≠ (.slice Ao28 x11_2.length co28 : Value).ownBlock ∧ k_ ≠ gb546))) _ _ l3_6 t552 t555 t558 _ ?side1 ?side2 A22.out).mono ?_); (case side1 => exact HO_0.out); (case side2 => exact HO_547006.out); rintro e w30 ⟨v553, v556, rfl, ho0, ho1, hb⟩; have n0_ := o_ (Kd.V_below (Vu HO_0) hb); have n1_ := o_ (Kd.R_below (Ru HO_11) hb); have n2_ := o_ (Kd.V_below (Vu HO_547006) hb); have n3_ := o_ (Kd.V_below (Vu HO551) hb); have n4_ := o_ (Kd.V_lower (Kd.V_mono (ok' := fun k_ => ((P0_ k_ ∨ P3_6_ k_) ∨ w.heap.size ≤ k_) ∧ some k_ ≠ (.slice Ao28 x11_2.length co28 : Value).ownBlock ∧ k_ ≠ gb546) ho0 (fun k_ hk_ => ⟨Or.elim hk_ (fun hs_ => Or.elim hs_ (fun hs_ => hs_.1) (fun hs_ => hs_.1)) (fun hn_ => (.inr (Nat.le_trans (below_size (bl HB)) hn_))), Or.elim hk_ (fun hs_ => Or.elim hs_ (fun hs_ => hs_.2.1) (fun hs_ => hs_.2.1)) (fun hn_ => (Kd.fresh' (Kd.R_lt (Ru HO_11)) k_ hn_)), Or.elim hk_ (fun hs_ => Or.elim hs_ (fun hs_ => hs_.2.2) (fun hs_ => hs_.2.2)) (fun hn_ => (Kd.freshB (g := gb546) (o := .cells #[.int .i64 a3_0, .int .i64 a3_1, .int .i64 a3_2, .int .i64 a3_3, .string a3_4, .string a3_5, .slice A3_6 l3_6.length c3_6] 33 (0, 0)) (bu BK546) k_ hn_))⟩)) (below_size (bl HB))); have n5_ := o_ (Kd.V_lower (Kd.V_mono (ok' := fun k_ => ((P0_ k_ ∨ P3_6_ k_) ∨ w.heap.size ≤ k_) ∧ some k_ ≠ (.slice Ao28 x11_2.length co28 : Value).ownBlock ∧ k_ ≠ gb546) ho1 (fun k_ hk_ => ⟨Or.elim hk_ (fun hs_ => Or.elim hs_ (fun hs_ => hs_.1) (fun hs_ => hs_.1)) (fun hn_ => (.inr (Nat.le_trans (below_size (bl HB)) hn_))), Or.elim hk_ (fun hs_ => Or.elim hs_ (fun hs_ => hs_.2.1) (fun hs_ => hs_.2.1)) (fun hn_ => (Kd.fresh' (Kd.R_lt (Ru HO_11)) k_ hn_)), Or.elim hk_ (fun hs_ => Or.elim hs_ (fun hs_ => hs_.2.2) (fun hs_ => hs_.2.2)) (fun hn_ => (Kd.freshB (g := gb546) (o := .cells #[.int .i64 a3_0, .int .i64 a3_1, .int .i64 a3_2, .int .i64 a3_3, .string a3_4, .string a3_5, .slice A3_6 l3_6.length c3_6] 33 (0, 0)) (bu BK546) k_ hn_))⟩)) (below_size (bl HB))); have n6_ := o_ (blk_below (g := gb546) (o := .cells #[.int .i64 a3_0, .int .i64 a3_1, .int .i64 a3_2, .int .i64 a3_3, .string a3_4, .string a3_5, .slice A3_6 l3_6.length c3_6] 33 (0, 0)) (bu BK546) hb); have n7_ := o_ (below_step (bl HB) hb); clear HO_0; clear HO_11; clear HO_547006; clear HO551; clear BK546; clear HB; have HO_0 := n0_; have HO_11 := n1_; have HO_547006 := n2_; have HO551 := n3_; have HO554 := n4_; have HO557 := n5_; have BK546 := n6_; have HB := n7_; clear n0_ n1_ n2_ n3_ n4_ n5_ n6_ n7_; (try clear hb); (try clear ho0); (try clear ho1); obtain ⟨Ao31, co31, eo31⟩ := Kd.V_slice HO554.out; subst eo31) | (go_at_call 42; (with_reducible refine (r_own.calls k2 _ _ t552 t559 _ ?side1 ?side2 A23.out).mono ?_); (case side1 => exact Cu ⟨(Kd.V_reads' HO554.out).2.2⟩); (case side2 => exact (Kd.V_reads' HO554.out).2.1); rintro e w32 ⟨v560, rfl, ho0, hb⟩; have n0_ := o_ (Kd.V_elder' (Vu HO_0) (Kd.S_base ho0) hb); have n1_ := o_ (Kd.R_elder' (Ru HO_11) (Kd.S_base ho0) hb); have n2_ := o_ (Kd.V_elder' (Vu HO_547006) (Kd.S_base ho0) hb); have n3_ := o_ (Kd.V_elder' (Vu HO551) (Kd.S_base ho0) hb); have n4_ := o_ (Kd.V_elder' (Vu HO554) (Kd.S_base ho0) hb); have n5_ := o_ (Kd.V_elder' (Vu HO557) (Kd.S_base ho0) hb); have n6_ := o_ (Kd.S_lower (Kd.S_newB (Kd.S_newM (M := fun k_ => (w.heap.size ≤ k_)) ho0 (below_size (bl HB)) (fun k_ h_ => h_)) (g := gb546) (o := .cells #[.int .i64 a3_0, .int .i64 a3_1, .int .i64 a3_2, .int .i64 a3_3, .string a3_4, .string a3_5, .slice A3_6 l3_6.length c3_6] 33 (0, 0)) (bu BK546)) (below_size (bl HB))); have n7_ := o_ (blk_below (g := gb546) (o := .cells #[.int .i64 a3_0, .int .i64 a3_1, .int .i64 a3_2, .int .i64 a3_3, .string a3_4, .string a3_5, .slice A3_6 l3_6.length c3_6] 33 (0, 0)) (bu BK546) hb); have n8_ := o_ (below_step (bl HB) hb); clear HO_0; clear HO_11; clear HO_547006; clear HO551; clear HO554; clear HO557; clear BK546; clear HB; have HO_0 := n0_; have HO_11 := n1_; have HO_547006 := n2_; have HO551 := n3_; have HO554 := n4_; have HO557 := n5_; have HO561 := n6_; have BK546 := n7_; have HB := n8_; clear n0_ n1_ n2_ n3_ n4_ n5_ n6_ n7_ n8_; (try clear hb); (try clear ho0); obtain ⟨Ao34, co34, eo34⟩ := Kd.S_slice HO561.out; subst eo34) | ((with_reducible refine gate_builtin (b := .append) (xs := #[.tmp 61, .tmp 64]) rfl ?_); at_builtin; refine Kd.R_append (Kd.slice 33 k33) (w0 := w) w.heap.size rfl (.tmp 61) (.tmp 64) 43 23 (.slice none 0 0) 24 rfl Try.underlying43 info23 rfl (by decide) (by omega) (.slice Ao28 x11_2.length co28) x11_2 t559 [.slice Ao34 t559.length co34] (fun k_ => (w.heap.size ≤ k_) ∧ k_ ≠ gb546) (fun k_ => ((fun k_ => (w.heap.size ≤ k_) ∧ k_ ≠ gb546)) k_ ∧ some k_ ≠ (.slice Ao28 x11_2.length co28 : Value).ownBlock) rfl rfl ?aP (fun _ hk => hk) ?aF ?aO ?aB ?aS ?aL ?_; (case aP => exact Kd.M_row (Kd.R_mono (Kd.R_apart' ((Kd.S_R HO561.out)) (Kd.R_typed HO_11.out) (by decide)) (fun k_ hk => ⟨⟨hk.1.1.1, hk.1.2⟩, hk.2⟩))); (case aB => exact (bl HB)); (case aF => exact (fun k_ hk => ⟨(Nat.le_trans (below_size (bl HB)) hk), Kd.freshB (g := gb546) (o := .cells #[.int .i64 a3_0, .int .i64 a3_1, .int .i64 a3_2, .int .i64 a3_3, .string a3_4, .string a3_5, .slice A3_6 l3_6.length c3_6] 33 (0, 0)) (bu BK546) k_ hk⟩)); (case aO => exact (by (with_reducible repeat (first | apply Kd.R_alloc | apply Kd.R_drewN | apply Kd.R_drew)); exact Kd.R_mono HO_11.out (fun _ hk => ⟨hk.1.1, hk.1.2⟩))); (case aS => exact (below_size (bl HB))); (case aL => have := LMc24.out; omega); intro v563 w33 ho hb hg hat; rw [← Ny562.out] at ho; have n0_ := o_ (Kd.V_afterv (ok := (fun k_ => ((P0_ k_ ∨ P3_6_ k_) ∨ w.heap.size ≤ k_) ∧ some k_ ≠ (.slice Ao34 t559.length co34 : Value).ownBlock ∧ k_ ≠ gb546)) (by (with_reducible repeat (first | apply Kd.V_alloc | apply Kd.V_drewN | apply Kd.V_drew)); exact Kd.V_mono HO_0.out (fun _ hk => ⟨⟨hk.1.1, ⟨hk.2, hk.1.2.2⟩⟩, hk.1.2.1⟩)) hg hat); have n1_ := o_ (Kd.V_afterv (ok := (fun k_ => ((P0_ k_ ∨ P3_6_ k_) ∨ w.heap.size ≤ k_) ∧ some k_ ≠ (.slice Ao34 t559.length co34 : Value).ownBlock ∧ k_ ≠ gb546)) (by (with_reducible repeat (first | apply Kd.V_alloc | apply Kd.V_drewN | apply Kd.V_drew)); exact Kd.V_mono HO_547006.out (fun _ hk => ⟨⟨hk.1.1, ⟨hk.2, hk.1.2.2⟩⟩, hk.1.2.1⟩)) hg hat); have n2_ := o_ (blk_grown (g := gb546) (o := .cells #[.int .i64 a3_0, .int .i64 a3_1, .int .i64 a3_2, .int .i64 a3_3, .string a3_4, .string a3_5, .slice A3_6 l3_6.length c3_6] 33 (0, 0)) (bu BK546) hg (Kd.R_ne HO_11.out BK546.out (by decide))); have n3_ := o_ (Kd.V_afterv (ok := (fun k_ => ((P0_ k_ ∨ P3_6_ k_) ∨ w.heap.size ≤ k_) ∧ some k_ ≠ (.slice Ao34 t559.length co34 : Value).ownBlock ∧ k_ ≠ gb546)) (by (with_reducible repeat (first | apply Kd.V_alloc | apply Kd.V_drewN | apply Kd.V_drew)); exact Kd.V_mono HO551.out (fun _ hk => ⟨⟨hk.1.1, ⟨hk.2, hk.1.2.2⟩⟩, hk.1.2.1⟩)) hg hat); have n4_ := o_ (Kd.V_afterv (ok := (fun k_ => ((P0_ k_ ∨ P3_6_ k_) ∨ w.heap.size ≤ k_) ∧ some k_ ≠ (.slice Ao34 t559.length co34 : Value).ownBlock ∧ k_ ≠ gb546)) (by (with_reducible repeat (first | apply Kd.V_alloc | apply Kd.V_drewN | apply Kd.V_drew)); exact Kd.V_mono HO554.out (fun _ hk => ⟨⟨hk.1.1, ⟨hk.2, hk.1.2.2⟩⟩, hk.1.2.1⟩)) hg hat); have n5_ := o_ (Kd.V_afterv (ok := (fun k_ => ((P0_ k_ ∨ P3_6_ k_) ∨ w.heap.size ≤ k_) ∧ some k_ ≠ (.slice Ao34 t559.length co34 : Value).ownBlock ∧ k_ ≠ gb546)) (by (with_reducible repeat (first | apply Kd.V_alloc | apply Kd.V_drewN | apply Kd.V_drew)); exact Kd.V_mono HO557.out (fun _ hk => ⟨⟨hk.1.1, ⟨hk.2, hk.1.2.2⟩⟩, hk.1.2.1⟩)) hg hat); have n6_ := o_ (hb); have n7_ := o_ (ho); clear HO_0; clear HO_547006; clear BK546; clear HO551; clear HO554; clear HO557; clear HB; clear HO_11; clear HO561; have HO_0 := n0_; have HO_547006 := n1_; have BK546 := n2_; have HO551 := n3_; have HO554 := n4_; have HO557 := n5_; have HB := n6_; have HO564 := n7_; clear n0_ n1_ n2_ n3_ n4_ n5_ n6_ n7_; clear ho hb hg hat))
      go_roundg k2
      case measure => have := HJ5.out; have := HK2.out; omega
      case rel => exact ⟨(t555), (y562), H', ⟨by have := HJ5.out; have := HK2.out; omega⟩, ⟨by (with_reducible repeat (first | apply Kd.V_alloc | apply Kd.V_drewN | apply Kd.V_drew)); exact Kd.V_mono HO557.out (fun _ hk => ⟨hk.1.1, ⟨hk.2, hk.1.2.2⟩⟩)⟩, ⟨Ru HO564⟩, ⟨by (with_reducible repeat (first | apply Kd.V_alloc | apply Kd.V_drewN | apply Kd.V_drew)); exact Kd.V_mono HO_547006.out (fun _ hk => ⟨hk.1.1, ⟨hk.2, hk.1.2.2⟩⟩)⟩, ⟨bu BK546⟩, ⟨bl HB⟩⟩
     rw [if_neg c21] at H
     have c21b0 : ((x11_2.length : Int) == 0) = false := beq_eq_false_iff_ne.mpr c21
     have c21b1 : ((x11_2.length : Int) != 0) = true := bne_iff_ne.mpr c21
     have c21b2 : ¬ (x11_2 = []) := fun h_ => c21 (by rw [h_]; rfl)
     obtain ⟨⟨t565, t568, t571⟩, A350, H⟩ := qb H
     try dsimp only at H
     have A35 := o_ A350
     clear A350
     obtain ⟨t572, A360, H⟩ := qb H
     try dsimp only at H
     have A36 := o_ A360
     clear A360
     by_cases c37 : x11_2.length < 5864062014805
     rotate_left
     ·rw [if_neg c37] at H
      exact absurd H (by simp)
     rw [if_pos c37] at H
     have LMc37 := o_ c37
     clear c37
     obtain ⟨y575, hy575⟩ : ∃ y_ : List (List (S33)), y_ = (x11_2 ++ [t572]) := ⟨_, rfl⟩
     replace H : (r_Break.l0 k2 t568 a1 a2 y575 a3_0 a3_1 a3_2 a3_3 a3_4 a3_5 l3_6) = some (r1, r2) := by first | (rw [hy575]; with_reducible exact H) | (have H2_ := (Option.bind_some _ _).symm.trans H; rw [hy575]; with_reducible exact H2_) | (have H2_ := (Option.bind_some _ _).symm.trans H; with_reducible exact H2_) | with_reducible exact H | (rw [hy575]; exact H) | exact H
     have Ny575 := o_ hy575
     clear hy575
     have H' := o_ H
     clear H
     obtain ⟨Ao38, co38, eo38⟩ := Kd.V_slice HO_0.out
     subst eo38
     go_wp2_with (first | (go_at_call 70; (with_reducible refine (r_front.calls k2 (fun k_ => (((P0_ k_ ∨ P3_6_ k_) ∨ w.heap.size ≤ k_) ∧ (some k_ ≠ (u11 : Value).ownBlock ∧ k_ ≠ gb546))) _ _ x0_2 t549 _ ?side1 A19.out).mono ?_); (case side1 => exact HO_0.out); rintro e w39 ⟨v550, rfl, ho0, hb⟩; have n0_ := o_ (Kd.V_below (Vu HO_0) hb); have n1_ := o_ (Kd.R_below (Ru HO_11) hb); have n2_ := o_ (Kd.V_below (Vu HO_547006) hb); have n3_ := o_ (Kd.V_lower (Kd.V_mono (ok' := fun k_ => ((P0_ k_ ∨ P3_6_ k_) ∨ w.heap.size ≤ k_) ∧ some k_ ≠ (u11 : Value).ownBlock ∧ k_ ≠ gb546) ho0 (fun k_ hk_ => ⟨Or.elim hk_ (fun hs_ => hs_.1) (fun hn_ => (.inr (Nat.le_trans (below_size (bl HB)) hn_))), Or.elim hk_ (fun hs_ => hs_.2.1) (fun hn_ => (Kd.fresh' (Kd.R_lt (Ru HO_11)) k_ hn_)), Or.elim hk_ (fun hs_ => hs_.2.2) (fun hn_ => (Kd.freshB (g := gb546) (o := .cells #[.int .i64 a3_0, .int .i64 a3_1, .int .i64 a3_2, .int .i64 a3_3, .string a3_4, .string a3_5, .slice A3_6 l3_6.length c3_6] 33 (0, 0)) (bu BK546) k_ hn_))⟩)) (below_size (bl HB))); have n4_ := o_ (blk_below (g := gb546) (o := .cells #[.int .i64 a3_0, .int .i64 a3_1, .int .i64 a3_2, .int .i64 a3_3, .string a3_4, .string a3_5, .slice A3_6 l3_6.length c3_6] 33 (0, 0)) (bu BK546) hb); have n5_ := o_ (below_step (bl HB) hb); clear HO_0; clear HO_11; clear HO_547006; clear BK546; clear HB; have HO_0 := n0_; have HO_11 := n1_; have HO_547006 := n2_; have HO551 := n3_; have BK546 := n4_; have HB := n5_; clear n0_ n1_ n2_ n3_ n4_ n5_; (try clear hb); (try clear ho0); obtain ⟨Ao40, co40, eo40⟩ := Kd.V_slice HO551.out; subst eo40; obtain ⟨Ao41, co41, eo41⟩ := Kd.R_slice HO_11.out; subst eo41; have z42 := box7 BK546) | (go_at_call 69; (with_reducible refine (r_take.calls k2 (fun k_ => (((P0_ k_ ∨ P3_6_ k_) ∨ w.heap.size ≤ k_) ∧ (some k_ ≠ (.slice Ao41 x11_2.length co41 : Value).ownBlock ∧ k_ ≠ gb546))) _ _ x0_2 a2 a3_0 a3_1 a3_2 a3_3 a3_4 a3_5 (fun k_ => (((P0_ k_ ∨ P3_6_ k_) ∨ w.heap.size ≤ k_) ∧ (some k_ ≠ (.slice Ao41 x11_2.length co41 : Value).ownBlock ∧ k_ ≠ gb546))) _ _ l3_6 t565 t568 t571 _ ?side1 ?side2 A35.out).mono ?_); (case side1 => exact HO_0.out); (case side2 => exact HO_547006.out); rintro e w43 ⟨v566, v569, rfl, ho0, ho1, hb⟩; have n0_ := o_ (Kd.V_below (Vu HO_0) hb); have n1_ := o_ (Kd.R_below (Ru HO_11) hb); have n2_ := o_ (Kd.V_below (Vu HO_547006) hb); have n3_ := o_ (Kd.V_below (Vu HO551) hb); have n4_ := o_ (Kd.V_lower (Kd.V_mono (ok' := fun k_ => ((P0_ k_ ∨ P3_6_ k_) ∨ w.heap.size ≤ k_) ∧ some k_ ≠ (.slice Ao41 x11_2.length co41 : Value).ownBlock ∧ k_ ≠ gb546) ho0 (fun k_ hk_ => ⟨Or.elim hk_ (fun hs_ => Or.elim hs_ (fun hs_ => hs_.1) (fun hs_ => hs_.1)) (fun hn_ => (.inr (Nat.le_trans (below_size (bl HB)) hn_))), Or.elim hk_ (fun hs_ => Or.elim hs_ (fun hs_ => hs_.2.1) (fun hs_ => hs_.2.1)) (fun hn_ => (Kd.fresh' (Kd.R_lt (Ru HO_11)) k_ hn_)), Or.elim hk_ (fun hs_ => Or.elim hs_ (fun hs_ => hs_.2.2) (fun hs_ => hs_.2.2)) (fun hn_ => (Kd.freshB (g := gb546) (o := .cells #[.int .i64 a3_0, .int .i64 a3_1, .int .i64 a3_2, .int .i64 a3_3, .string a3_4, .string a3_5, .slice A3_6 l3_6.length c3_6] 33 (0, 0)) (bu BK546) k_ hn_))⟩)) (below_size (bl HB))); have n5_ := o_ (Kd.V_lower (Kd.V_mono (ok' := fun k_ => ((P0_ k_ ∨ P3_6_ k_) ∨ w.heap.size ≤ k_) ∧ some k_ ≠ (.slice Ao41 x11_2.length co41 : Value).ownBlock ∧ k_ ≠ gb546) ho1 (fun k_ hk_ => ⟨Or.elim hk_ (fun hs_ => Or.elim hs_ (fun hs_ => hs_.1) (fun hs_ => hs_.1)) (fun hn_ => (.inr (Nat.le_trans (below_size (bl HB)) hn_))), Or.elim hk_ (fun hs_ => Or.elim hs_ (fun hs_ => hs_.2.1) (fun hs_ => hs_.2.1)) (fun hn_ => (Kd.fresh' (Kd.R_lt (Ru HO_11)) k_ hn_)), Or.elim hk_ (fun hs_ => Or.elim hs_ (fun hs_ => hs_.2.2) (fun hs_ => hs_.2.2)) (fun hn_ => (Kd.freshB (g := gb546) (o := .cells #[.int .i64 a3_0, .int .i64 a3_1, .int .i64 a3_2, .int .i64 a3_3, .string a3_4, .string a3_5, .slice A3_6 l3_6.length c3_6] 33 (0, 0)) (bu BK546) k_ hn_))⟩)) (below_size (bl HB))); have n6_ := o_ (blk_below (g := gb546) (o := .cells #[.int .i64 a3_0, .int .i64 a3_1, .int .i64 a3_2, .int .i64 a3_3, .string a3_4, .string a3_5, .slice A3_6 l3_6.length c3_6] 33 (0, 0)) (bu BK546) hb); have n7_ := o_ (below_step (bl HB) hb); clear HO_0; clear HO_11; clear HO_547006; clear HO551; clear BK546; clear HB; have HO_0 := n0_; have HO_11 := n1_; have HO_547006 := n2_; have HO551 := n3_; have HO567 := n4_; have HO570 := n5_; have BK546 := n6_; have HB := n7_; clear n0_ n1_ n2_ n3_ n4_ n5_ n6_ n7_; (try clear hb); (try clear ho0); (try clear ho1); obtain ⟨Ao44, co44, eo44⟩ := Kd.V_slice HO567.out; subst eo44) | (go_at_call 42; (with_reducible refine (r_own.calls k2 _ _ t565 t572 _ ?side1 ?side2 A36.out).mono ?_); (case side1 => exact Cu ⟨(Kd.V_reads' HO567.out).2.2⟩); (case side2 => exact (Kd.V_reads' HO567.out).2.1); rintro e w45 ⟨v573, rfl, ho0, hb⟩; have n0_ := o_ (Kd.V_elder' (Vu HO_0) (Kd.S_base ho0) hb); have n1_ := o_ (Kd.R_elder' (Ru HO_11) (Kd.S_base ho0) hb); have n2_ := o_ (Kd.V_elder' (Vu HO_547006) (Kd.S_base ho0) hb); have n3_ := o_ (Kd.V_elder' (Vu HO551) (Kd.S_base ho0) hb); have n4_ := o_ (Kd.V_elder' (Vu HO567) (Kd.S_base ho0) hb); have n5_ := o_ (Kd.V_elder' (Vu HO570) (Kd.S_base ho0) hb); have n6_ := o_ (Kd.S_lower (Kd.S_newB (Kd.S_newM (M := fun k_ => (w.heap.size ≤ k_)) ho0 (below_size (bl HB)) (fun k_ h_ => h_)) (g := gb546) (o := .cells #[.int .i64 a3_0, .int .i64 a3_1, .int .i64 a3_2, .int .i64 a3_3, .string a3_4, .string a3_5, .slice A3_6 l3_6.length c3_6] 33 (0, 0)) (bu BK546)) (below_size (bl HB))); have n7_ := o_ (blk_below (g := gb546) (o := .cells #[.int .i64 a3_0, .int .i64 a3_1, .int .i64 a3_2, .int .i64 a3_3, .string a3_4, .string a3_5, .slice A3_6 l3_6.length c3_6] 33 (0, 0)) (bu BK546) hb); have n8_ := o_ (below_step (bl HB) hb); clear HO_0; clear HO_11; clear HO_547006; clear HO551; clear HO567; clear HO570; clear BK546; clear HB; have HO_0 := n0_; have HO_11 := n1_; have HO_547006 := n2_; have HO551 := n3_; have HO567 := n4_; have HO570 := n5_; have HO574 := n6_; have BK546 := n7_; have HB := n8_; clear n0_ n1_ n2_ n3_ n4_ n5_ n6_ n7_ n8_; (try clear hb); (try clear ho0); obtain ⟨Ao47, co47, eo47⟩ := Kd.S_slice HO574.out; subst eo47) | ((with_reducible refine gate_builtin (b := .append) (xs := #[.tmp 61, .tmp 64]) rfl ?_); at_builtin; refine Kd.R_append (Kd.slice 33 k33) (w0 := w) w.heap.size rfl (.tmp 61) (.tmp 64) 43 23 (.slice none 0 0) 24 rfl Try.underlying43 info23 rfl (by decide) (by omega) (.slice Ao41 x11_2.length co41) x11_2 t572 [.slice Ao47 t572.length co47] (fun k_ => (w.heap.size ≤ k_) ∧ k_ ≠ gb546) (fun k_ => ((fun k_ => (w.heap.size ≤ k_) ∧ k_ ≠ gb546)) k_ ∧ some k_ ≠ (.slice Ao41 x11_2.length co41 : Value).ownBlock) rfl rfl ?aP (fun _ hk => hk) ?aF ?aO ?aB ?aS ?aL ?_; (case aP => exact Kd.M_row (Kd.R_mono (Kd.R_apart' ((Kd.S_R HO574.out)) (Kd.R_typed HO_11.out) (by decide)) (fun k_ hk => ⟨⟨hk.1.1.1, hk.1.2⟩, hk.2⟩))); (case aB => exact (bl HB)); (case aF => exact (fun k_ hk => ⟨(Nat.le_trans (below_size (bl HB)) hk), Kd.freshB (g := gb546) (o := .cells #[.int .i64 a3_0, .int .i64 a3_1, .int .i64 a3_2, .int .i64 a3_3, .string a3_4, .string a3_5, .slice A3_6 l3_6.length c3_6] 33 (0, 0)) (bu BK546) k_ hk⟩)); (case aO => exact (by (with_reducible repeat (first | apply Kd.R_alloc | apply Kd.R_drewN | apply Kd.R_drew)); exact Kd.R_mono HO_11.out (fun _ hk => ⟨hk.1.1, hk.1.2⟩))); (case aS => exact (below_size (bl HB))); (case aL => have := LMc37.out; omega); intro v576 w46 ho hb hg hat; rw [← Ny575.out] at ho; have n0_ := o_ (Kd.V_afterv (ok := (fun k_ => ((P0_ k_ ∨ P3_6_ k_) ∨ w.heap.size ≤ k_) ∧ some k_ ≠ (.slice Ao47 t572.length co47 : Value).ownBlock ∧ k_ ≠ gb546)) (by (with_reducible repeat (first | apply Kd.V_alloc | apply Kd.V_drewN | apply Kd.V_drew)); exact Kd.V_mono HO_0.out (fun _ hk => ⟨⟨hk.1.1, ⟨hk.2, hk.1.2.2⟩⟩, hk.1.2.1⟩)) hg hat); have n1_ := o_ (Kd.V_afterv (ok := (fun k_ => ((P0_ k_ ∨ P3_6_ k_) ∨ w.heap.size ≤ k_) ∧ some k_ ≠ (.slice Ao47 t572.length co47 : Value).ownBlock ∧ k_ ≠ gb546)) (by (with_reducible repeat (first | apply Kd.V_alloc | apply Kd.V_drewN | apply Kd.V_drew)); exact Kd.V_mono HO_547006.out (fun _ hk => ⟨⟨hk.1.1, ⟨hk.2, hk.1.2.2⟩⟩, hk.1.2.1⟩)) hg hat); have n2_ := o_ (blk_grown (g := gb546) (o := .cells #[.int .i64 a3_0, .int .i64 a3_1, .int .i64 a3_2, .int .i64 a3_3, .string a3_4, .string a3_5, .slice A3_6 l3_6.length c3_6] 33 (0, 0)) (bu BK546) hg (Kd.R_ne HO_11.out BK546.out (by decide))); have n3_ := o_ (Kd.V_afterv (ok := (fun k_ => ((P0_ k_ ∨ P3_6_ k_) ∨ w.heap.size ≤ k_) ∧ some k_ ≠ (.slice Ao47 t572.length co47 : Value).ownBlock ∧ k_ ≠ gb546)) (by (with_reducible repeat (first | apply Kd.V_alloc | apply Kd.V_drewN | apply Kd.V_drew)); exact Kd.V_mono HO551.out (fun _ hk => ⟨⟨hk.1.1, ⟨hk.2, hk.1.2.2⟩⟩, hk.1.2.1⟩)) hg hat); have n4_ := o_ (Kd.V_afterv (ok := (fun k_ => ((P0_ k_ ∨ P3_6_ k_) ∨ w.heap.size ≤ k_) ∧ some k_ ≠ (.slice Ao47 t572.length co47 : Value).ownBlock ∧ k_ ≠ gb546)) (by (with_reducible repeat (first | apply Kd.V_alloc | apply Kd.V_drewN | apply Kd.V_drew)); exact Kd.V_mono HO567.out (fun _ hk => ⟨⟨hk.1.1, ⟨hk.2, hk.1.2.2⟩⟩, hk.1.2.1⟩)) hg hat); have n5_ := o_ (Kd.V_afterv (ok := (fun k_ => ((P0_ k_ ∨ P3_6_ k_) ∨ w.heap.size ≤ k_) ∧ some k_ ≠ (.slice Ao47 t572.length co47 : Value).ownBlock ∧ k_ ≠ gb546)) (by (with_reducible repeat (first | apply Kd.V_alloc | apply Kd.V_drewN | apply Kd.V_drew)); exact Kd.V_mono HO570.out (fun _ hk => ⟨⟨hk.1.1, ⟨hk.2, hk.1.2.2⟩⟩, hk.1.2.1⟩)) hg hat); have n6_ := o_ (hb); have n7_ := o_ (ho); clear HO_0; clear HO_547006; clear BK546; clear HO551; clear HO567; clear HO570; clear HB; clear HO_11; clear HO574; have HO_0 := n0_; have HO_547006 := n1_; have BK546 := n2_; have HO551 := n3_; have HO567 := n4_; have HO570 := n5_; have HB := n6_; have HO577 := n7_; clear n0_ n1_ n2_ n3_ n4_ n5_ n6_ n7_; clear ho hb hg hat))
     go_roundg k2
     case measure => have := HJ5.out; have := HK2.out; omega
     case rel => exact ⟨(t568), (y575), H', ⟨by have := HJ5.out; have := HK2.out; omega⟩, ⟨by (with_reducible repeat (first | apply Kd.V_alloc | apply Kd.V_drewN | apply Kd.V_drew)); exact Kd.V_mono HO570.out (fun _ hk => ⟨hk.1.1, ⟨hk.2, hk.1.2.2⟩⟩)⟩, ⟨Ru HO577⟩, ⟨by (with_reducible repeat (first | apply Kd.V_alloc | apply Kd.V_drewN | apply Kd.V_drew)); exact Kd.V_mono HO_547006.out (fun _ hk => ⟨hk.1.1, ⟨hk.2, hk.1.2.2⟩⟩)⟩, ⟨bu BK546⟩, ⟨bl HB⟩⟩
end Go.Proofs.Yteadghhmoggjnaa.Q
end
