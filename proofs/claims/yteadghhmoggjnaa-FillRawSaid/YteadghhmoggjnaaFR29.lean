import Derived.Test.YteadghhmoggjnaaFR10
import Derived.Test.YteadghhmoggjnaaFR5
import Derived.Test.YteadghhmoggjnaaFR19
import Derived.Test.YteadghhmoggjnaaFR23
import Derived.Test.YteadghhmoggjnaaFR25
set_option linter.unusedVariables false
set_option linter.unusedSimpArgs false
section
namespace Go.Proofs.Yteadghhmoggjnaa.Q
open Go.RowKit Go.Proofs.YteadghhmoggjnaaW.PrintWords Go.Proofs.YteadghhmoggjnaaW.PrintLast Go.Proofs.YteadghhmoggjnaaW.PrintMore
attribute [local go_sem] max2_int max_two
set_option maxHeartbeats 8000000
set_option maxRecDepth 100000
def r_Take.j0 : Nat → List (S33) → Int → Int → Bool → Int → Int → Int → Int → ByteArray → ByteArray → List Int → Option ((List (S33)) × (List (S33)) × Bool × Int)
 | 0, _, _, _, _, _, _, _, _, _, _, _ => none
 | k + 1, x0, x1, x10, x30, gg0, gg1, gg2, gg3, gg4, gg5, gg6 => if x30 = true then (some (([] : List (S33)), ([] : List (S33)), false, 1)) else (if x10 = 0 then ((r_take.f k x0 x1 gg0 gg1 gg2 gg3 gg4 gg5 gg6).bind fun bt533 => ((r_own.f k bt533.1).bind fun t540 => ((r_own.f k bt533.2.1).bind fun t543 => (some (t540, t543, bt533.2.2, 0))))) else (some (([] : List (S33)), ([] : List (S33)), false, x10)))
def r_Take.f (k : Nat) (l0 : List (S33)) (a1 : Int) (a2_0 : Int) (a2_1 : Int) (a2_2 : Int) (a2_3 : Int) (a2_4 : ByteArray) (a2_5 : ByteArray) (l2_6 : List Int) : Option ((List (S33)) × (List (S33)) × Bool × Int) := (r_check.f k l0).bind fun t531 => (if t531 = 1 then (r_Take.j0 k l0 a1 t531 true a2_0 a2_1 a2_2 a2_3 a2_4 a2_5 l2_6) else (if a1 < 0 then (r_Take.j0 k l0 a1 t531 true a2_0 a2_1 a2_2 a2_3 a2_4 a2_5 l2_6) else (if a1 > 10000000 then (r_Take.j0 k l0 a1 t531 true a2_0 a2_1 a2_2 a2_3 a2_4 a2_5 l2_6) else ((r_isHyphen.f k a2_0 a2_1 a2_2 a2_3 a2_4 a2_5 l2_6).bind fun t532 => (r_Take.j0 k l0 a1 t531 (!t532) a2_0 a2_1 a2_2 a2_3 a2_4 a2_5 l2_6)))))
theorem r_Take.calls (k : Nat) (A0 : Option Addr) (c0 : Nat) (l0 : List (S33)) (a1 : Int) (a2_0 : Int) (a2_1 : Int) (a2_2 : Int) (a2_3 : Int) (a2_4 : ByteArray) (a2_5 : ByteArray) (A2_6 : Option Addr) (c2_6 : Nat) (l2_6 : List Int) (r1 : List (S33)) (r2 : List (S33)) (r3 : Bool) (r4 : Int) (w : World) (hr0 : Kd.C k33 w A0 l0.length l0) (hc0 : l0.length ≤ c0) (hr2_6 : Kd.C (Kd.int .i64) w A2_6 l2_6.length l2_6) (hc2_6 : l2_6.length ≤ c2_6) (h : r_Take.f k l0 a1 a2_0 a2_1 a2_2 a2_3 a2_4 a2_5 l2_6 = some (r1, r2, r3, r4)) :
  Calls Try.prog 44 #[.slice A0 l0.length c0, .int .i64 a1, .agg #[.int .i64 a2_0, .int .i64 a2_1, .int .i64 a2_2, .int .i64 a2_3, .string a2_4, .string a2_5, .slice A2_6 l2_6.length c2_6]] w fun e w' => ∃ v0_ v1_ : Value, e = .returned (.tuple #[v0_, v1_, .bool r3, .int .i64 r4]) ∧ Kd.S k33 33 w' w.heap.size (fun k_ => some k_ ≠ (v1_ : Value).ownBlock) v0_ r1 ∧ Kd.S k33 33 w' w.heap.size (fun k_ => some k_ ≠ (v0_ : Value).ownBlock) v1_ r2 ∧ Below w.heap.size w w' := by
 have hu33 := Try.underlying33
 have HR0 := As.mk hr0
 have HC0 := As.mk hc0
 clear hr0 hc0
 have HR2_6 := As.mk hr2_6
 have HC2_6 := As.mk hc2_6
 clear hr2_6 hc2_6
 have HB := As.mk (Below.refl w.heap.size w)
 have H : ((r_check.f k l0).bind fun t531 => (if t531 = 1 then (r_Take.j0 k l0 a1 t531 true a2_0 a2_1 a2_2 a2_3 a2_4 a2_5 l2_6) else (if a1 < 0 then (r_Take.j0 k l0 a1 t531 true a2_0 a2_1 a2_2 a2_3 a2_4 a2_5 l2_6) else (if a1 > 10000000 then (r_Take.j0 k l0 a1 t531 true a2_0 a2_1 a2_2 a2_3 a2_4 a2_5 l2_6) else ((r_isHyphen.f k a2_0 a2_1 a2_2 a2_3 a2_4 a2_5 l2_6).bind fun t532 => (r_Take.j0 k l0 a1 t531 (!t532) a2_0 a2_1 a2_2 a2_3 a2_4 a2_5 l2_6)))))) = some (r1, r2, r3, r4) := h
 clear h
 replace H := Option.bind_eq_some_iff.mp H
 obtain ⟨t531, A40, H⟩ := H
 try dsimp only at H
 have A4 := As.mk A40
 clear A40
 have HC5 := As.mk H
 clear H
 go_enter Try.func44, Try.ntmps44
 go_upto_region 2 with (first | ((with_reducible refine gate_dst (N := 5) rfl ?_); refine box_event ?hg (N := 5) ?hd (cs := #[.int .i64 a2_0, .int .i64 a2_1, .int .i64 a2_2, .int .i64 a2_3, .string a2_4, .string a2_5, .slice A2_6 l2_6.length c2_6]) (t := 33) ?hr ?_; (case hd => rfl); (case hg => rfl); (case hr => first | (go_simp; done) | (go_simp; rfl)); intro gb530 hg w6 hbox hb; have n0_ := As.mk (below_step (bl HB.out) hb); have n1_ := As.mk (hbox); have n2_ := As.mk ((by rw [hg]; exact (below_size (bl HB.out)) : w.heap.size ≤ gb530)); have n3_ := As.mk ((by rw [hg]; exact (below_size (bl HB.out)) : w.heap.size ≤ gb530)); clear HB; have HB := n0_; have BK530 := n1_; have GW530 := n2_; have GE530 := n3_; clear n0_ n1_ n2_ n3_; clear hb hbox hg) | (go_at_call 67; (with_reducible refine (r_check.calls k _ _ l0 t531 _ ?side1 ?side2 A4.out).mono ?_); (case side1 => exact Kd.C_below HR0.out (bl HB.out)); (case side2 => exact HC0.out); rintro e w7 ⟨rfl, hb⟩; have n0_ := As.mk (blk_below (g := gb530) (o := .cells #[.int .i64 a2_0, .int .i64 a2_1, .int .i64 a2_2, .int .i64 a2_3, .string a2_4, .string a2_5, .slice A2_6 l2_6.length c2_6] 33 (0, 0)) (bu BK530.out) hb); have n1_ := As.mk (below_step (bl HB.out) hb); clear BK530; clear HB; have BK530 := n0_; have HB := n1_; clear n0_ n1_; (try clear hb)))
 (try simp only [Act.put, List.setIfInBounds_toArray, List.set_cons_zero, List.set_cons_succ])
 go_cut [30] (fun v30 wc => ∃ (kq : Nat) (x30_4 : Bool), v30 = .bool x30_4 ∧ As (r_Take.j0 kq l0 a1 t531 x30_4 a2_0 a2_1 a2_2 a2_3 a2_4 a2_5 l2_6 = some (r1, r2, r3, r4)) ∧ As (kq ≤ k) ∧ As (wc.heap[gb530]? = some (.cells #[.int .i64 a2_0, .int .i64 a2_1, .int .i64 a2_2, .int .i64 a2_3, .string a2_4, .string a2_5, (.slice A2_6 l2_6.length c2_6)] 33 (0, 0))) ∧ As (Below w.heap.size w wc))
 case first =>
  have H := HC5.out
  clear HC5
  by_cases c8 : t531 = 1
  ·rw [if_pos c8] at H
   have c8b0 : (t531 == 1) = true := beq_iff_eq.mpr c8
   have c8b1 : (t531 != 1) = false := bne_eq_false_iff_eq.mpr c8
   clear c8
   (first | rw [c8b0] | (simp only [i64_w, i32_w]; rw [c8b0]) | skip)
   have H' := As.mk H
   clear H
   go_wp2
   go_meet
   case rel => exact ⟨_, (true), (by first | rfl | simp [*]), H', ⟨by first | omega | exact Nat.le_refl _⟩, ⟨bu BK530.out⟩, ⟨bl HB.out⟩⟩
  rw [if_neg c8] at H
  have c8b0 : (t531 == 1) = false := beq_eq_false_iff_ne.mpr c8
  have c8b1 : (t531 != 1) = true := bne_iff_ne.mpr c8
  (first | rw [c8b0] | (simp only [i64_w, i32_w]; rw [c8b0]) | skip)
  by_cases c9 : a1 < 0
  ·rw [if_pos c9] at H
   have c9b0 := decide_eq_true c9
   clear c9
   have H' := As.mk H
   clear H
   go_wp2
   go_meet
   case rel => exact ⟨_, (true), (by first | rfl | simp [*]), H', ⟨by first | omega | exact Nat.le_refl _⟩, ⟨bu BK530.out⟩, ⟨bl HB.out⟩⟩
  rw [if_neg c9] at H
  have c9b0 := decide_eq_false c9
  clear c9
  by_cases c10 : a1 > 10000000
  ·rw [if_pos c10] at H
   have c10b0 : decide (10000000 < a1) = true := decide_eq_true c10
   clear c10
   have H' := As.mk H
   clear H
   go_wp2
   go_meet
   case rel => exact ⟨_, (true), (by first | rfl | simp [*]), H', ⟨by first | omega | exact Nat.le_refl _⟩, ⟨bu BK530.out⟩, ⟨bl HB.out⟩⟩
  rw [if_neg c10] at H
  have c10b0 : decide (10000000 < a1) = false := decide_eq_false c10
  clear c10
  replace H := Option.bind_eq_some_iff.mp H
  obtain ⟨t532, A110, H⟩ := H
  try dsimp only at H
  have A11 := As.mk A110
  clear A110
  have H' := As.mk H
  clear H
  have z12 := box7 BK530.out
  go_wp2_with (first | (go_at_call 68; (with_reducible refine (r_isHyphen.calls k a2_0 a2_1 a2_2 a2_3 a2_4 a2_5 _ _ l2_6 t532 _ ?side1 ?side2 A11.out).mono ?_); (case side1 => exact Kd.C_below HR2_6.out (bl HB.out)); (case side2 => exact HC2_6.out); rintro e w13 ⟨rfl, hb⟩; have n0_ := As.mk (blk_below (g := gb530) (o := .cells #[.int .i64 a2_0, .int .i64 a2_1, .int .i64 a2_2, .int .i64 a2_3, .string a2_4, .string a2_5, .slice A2_6 l2_6.length c2_6] 33 (0, 0)) (bu BK530.out) hb); have n1_ := As.mk (below_step (bl HB.out) hb); clear BK530; clear HB; have BK530 := n0_; have HB := n1_; clear n0_ n1_; (try clear hb)))
  go_meet
  case rel => exact ⟨_, (!t532), (by first | rfl | simp [*]), H', ⟨by first | omega | exact Nat.le_refl _⟩, ⟨bu BK530.out⟩, ⟨bl HB.out⟩⟩
 case rest =>
  clear HC5
  try clear z12
  obtain ⟨kq, x30_4, rfl, HA, HJ4, BK530, HB⟩ := hcut
  cases kq with
  | zero => exact absurd HA.out (by simp [r_Take.j0])
  | succ kj4 =>
   have H := HA.out
   clear HA
   simp only [r_Take.j0] at H
   by_cases c14 : x30_4 = true
   ·subst c14
    have H1 : (some (([] : List (S33)), ([] : List (S33)), false, 1)) = some (r1, r2, r3, r4) := by rw [if_pos rfl] at H; exact H
    clear H
    have H := H1
    clear H1
    simp only [Option.some.injEq, Prod.mk.injEq] at H
    obtain ⟨rfl, rfl, rfl, rfl⟩ := H
    go_wp2
    refine bodyPost_ret (results_list (rs := [.tmp 6, .tmp 7, .tmp 8, .tmp 9]) rfl (by simp) (.tmp (.tmp (.tmp (.tmp .nil))))) rfl ?_
    exact ⟨_, _, by first | rfl | (simp [*] <;> rfl), by first | exact Kd.S_nil _ _ _ _ _ | exact Kd.N_nil _ _ _ _ _ | exact Kd.V_nil _ _ _ _ _ | exact Kd.Q_nil _ _ _ _ _ | exact Kd.R_nil _ _ _ _ _, by first | exact Kd.S_nil _ _ _ _ _ | exact Kd.N_nil _ _ _ _ _ | exact Kd.V_nil _ _ _ _ _ | exact Kd.Q_nil _ _ _ _ _ | exact Kd.R_nil _ _ _ _ _, bl HB.out⟩
   replace c14 := Bool.eq_false_iff.mpr c14
   subst c14
   have H1 : (if t531 = 0 then ((r_take.f kj4 l0 a1 a2_0 a2_1 a2_2 a2_3 a2_4 a2_5 l2_6).bind fun bt533 => ((r_own.f kj4 bt533.1).bind fun t540 => ((r_own.f kj4 bt533.2.1).bind fun t543 => (some (t540, t543, bt533.2.2, 0))))) else (some (([] : List (S33)), ([] : List (S33)), false, t531))) = some (r1, r2, r3, r4) := by rw [if_neg (show ¬ (false = true) by decide)] at H; exact H
   clear H
   have H := H1
   clear H1
   by_cases c15 : t531 = 0
   rotate_left
   ·rw [if_neg c15] at H
    have c15b0 : (t531 == 0) = false := beq_eq_false_iff_ne.mpr c15
    have c15b1 : (t531 != 0) = true := bne_iff_ne.mpr c15
    simp only [Option.some.injEq, Prod.mk.injEq] at H
    obtain ⟨rfl, rfl, rfl, rfl⟩ := H
    go_wp2
    refine bodyPost_ret (results_list (rs := [.tmp 6, .tmp 7, .tmp 8, .tmp 9]) rfl (by simp) (.tmp (.tmp (.tmp (.tmp .nil))))) rfl ?_
    exact ⟨_, _, by first | rfl | (simp [*] <;> rfl), by first | exact Kd.S_nil _ _ _ _ _ | exact Kd.N_nil _ _ _ _ _ | exact Kd.V_nil _ _ _ _ _ | exact Kd.Q_nil _ _ _ _ _ | exact Kd.R_nil _ _ _ _ _, by first | exact Kd.S_nil _ _ _ _ _ | exact Kd.N_nil _ _ _ _ _ | exact Kd.V_nil _ _ _ _ _ | exact Kd.Q_nil _ _ _ _ _ | exact Kd.R_nil _ _ _ _ _, bl HB.out⟩
   rw [if_pos c15] at H
   have c15b0 : (t531 == 0) = true := beq_iff_eq.mpr c15
   have c15b1 : (t531 != 0) = false := bne_eq_false_iff_eq.mpr c15
   clear c15
   replace H := Option.bind_eq_some_iff.mp H
   obtain ⟨⟨t533, t536, t539⟩, A160, H⟩ := H
   try dsimp only at H
   have A16 := As.mk A160
   clear A160
   replace H := Option.bind_eq_some_iff.mp H
   obtain ⟨t540, A170, H⟩ := H
   try dsimp only at H
   have A17 := As.mk A170
   clear A170
   replace H := Option.bind_eq_some_iff.mp H
   obtain ⟨t543, A180, H⟩ := H
   try dsimp only at H
   have A18 := As.mk A180
   clear A180
   simp only [Option.some.injEq, Prod.mk.injEq] at H
   obtain ⟨rfl, rfl, rfl, rfl⟩ := H
   have z19 := box7 BK530.out
   go_wp2_with (first | (go_at_call 69; (with_reducible refine (r_take.calls kj4 (fun k_ => k_ < w.heap.size) _ _ l0 a1 a2_0 a2_1 a2_2 a2_3 a2_4 a2_5 (fun k_ => k_ < w.heap.size) _ _ l2_6 t533 t536 t539 _ ?side1 ?side2 A16.out).mono ?_); (case side1 => exact Kd.V_mk HC0.out (Kd.F_below (Kd.C_F k33_heap HR0.out) (bl HB.out))); (case side2 => exact Kd.V_mk HC2_6.out (Kd.F_below (Kd.C_F (Kd.heap_int .i64) HR2_6.out) (bl HB.out))); rintro e w20 ⟨v534, v537, rfl, ho0, ho1, hb⟩; have n0_ := As.mk (Kd.V_lower (Kd.V_mono (ok' := fun k_ => k_ ≠ gb530) ho0 (fun k_ hk_ => Or.elim hk_ (fun hs_ => Or.elim hs_ (fun hs_ => fun e_ => Nat.not_le.2 hs_ (by rw [e_]; exact GW530.out)) (fun hs_ => fun e_ => Nat.not_le.2 hs_ (by rw [e_]; exact GW530.out))) (fun hn_ => (Kd.freshB (g := gb530) (o := .cells #[.int .i64 a2_0, .int .i64 a2_1, .int .i64 a2_2, .int .i64 a2_3, .string a2_4, .string a2_5, .slice A2_6 l2_6.length c2_6] 33 (0, 0)) (bu BK530.out) k_ hn_)))) (below_size (bl HB.out))); have n1_ := As.mk (Kd.V_lower (Kd.V_mono (ok' := fun k_ => k_ ≠ gb530) ho1 (fun k_ hk_ => Or.elim hk_ (fun hs_ => Or.elim hs_ (fun hs_ => fun e_ => Nat.not_le.2 hs_ (by rw [e_]; exact GW530.out)) (fun hs_ => fun e_ => Nat.not_le.2 hs_ (by rw [e_]; exact GW530.out))) (fun hn_ => (Kd.freshB (g := gb530) (o := .cells #[.int .i64 a2_0, .int .i64 a2_1, .int .i64 a2_2, .int .i64 a2_3, .string a2_4, .string a2_5, .slice A2_6 l2_6.length c2_6] 33 (0, 0)) (bu BK530.out) k_ hn_)))) (below_size (bl HB.out))); have n2_ := As.mk (blk_below (g := gb530) (o := .cells #[.int .i64 a2_0, .int .i64 a2_1, .int .i64 a2_2, .int .i64 a2_3, .string a2_4, .string a2_5, .slice A2_6 l2_6.length c2_6] 33 (0, 0)) (bu BK530.out) hb); have n3_ := As.mk (below_step (bl HB.out) hb); clear BK530; clear HB; have HO535 := n0_; have HO538 := n1_; have BK530 := n2_; have HB := n3_; clear n0_ n1_ n2_ n3_; (try clear hb); (try clear ho0); (try clear ho1); obtain ⟨Ao21, co21, eo21⟩ := Kd.V_slice HO535.out; subst eo21) | (go_at_call 42; (with_reducible refine (r_own.calls kj4 _ _ t533 t540 _ ?side1 ?side2 A17.out).mono ?_); (case side1 => exact Cu (Kd.V_reads' HO535.out).2.2); (case side2 => exact (Kd.V_reads' HO535.out).2.1); rintro e w22 ⟨v541, rfl, ho0, hb⟩; have n0_ := As.mk (Kd.V_elder' (Vu HO535.out) (Kd.S_base ho0) hb); have n1_ := As.mk (Kd.V_elder' (Vu HO538.out) (Kd.S_base ho0) hb); have n2_ := As.mk (Kd.S_lower (Kd.S_newB ho0 (g := gb530) (o := .cells #[.int .i64 a2_0, .int .i64 a2_1, .int .i64 a2_2, .int .i64 a2_3, .string a2_4, .string a2_5, .slice A2_6 l2_6.length c2_6] 33 (0, 0)) (bu BK530.out)) (below_size (bl HB.out))); have n3_ := As.mk (blk_below (g := gb530) (o := .cells #[.int .i64 a2_0, .int .i64 a2_1, .int .i64 a2_2, .int .i64 a2_3, .string a2_4, .string a2_5, .slice A2_6 l2_6.length c2_6] 33 (0, 0)) (bu BK530.out) hb); have n4_ := As.mk (below_step (bl HB.out) hb); clear HO535; clear HO538; clear BK530; clear HB; have HO535 := n0_; have HO538 := n1_; have HO542 := n2_; have BK530 := n3_; have HB := n4_; clear n0_ n1_ n2_ n3_ n4_; (try clear hb); (try clear ho0); obtain ⟨Ao23, co23, eo23⟩ := Kd.V_slice HO538.out; subst eo23) | (go_at_call 42; (with_reducible refine (r_own.calls kj4 _ _ t536 t543 _ ?side1 ?side2 A18.out).mono ?_); (case side1 => exact Cu (Kd.V_reads' HO538.out).2.2); (case side2 => exact (Kd.V_reads' HO538.out).2.1); rintro e w24 ⟨v544, rfl, ho0, hb⟩; have n0_ := As.mk (Kd.V_elder' (Vu HO535.out) (Kd.S_base ho0) hb); have n1_ := As.mk (Kd.V_elder' (Vu HO538.out) (Kd.S_base ho0) hb); have n2_ := As.mk (Kd.S_elder' (Su HO542.out) (Kd.S_base ho0) hb); have n3_ := As.mk (Kd.S_lower (Kd.S_newB (Kd.S_new' ho0 (Kd.S_lt (Su HO542.out))) (g := gb530) (o := .cells #[.int .i64 a2_0, .int .i64 a2_1, .int .i64 a2_2, .int .i64 a2_3, .string a2_4, .string a2_5, .slice A2_6 l2_6.length c2_6] 33 (0, 0)) (bu BK530.out)) (below_size (bl HB.out))); have n4_ := As.mk (blk_below (g := gb530) (o := .cells #[.int .i64 a2_0, .int .i64 a2_1, .int .i64 a2_2, .int .i64 a2_3, .string a2_4, .string a2_5, .slice A2_6 l2_6.length c2_6] 33 (0, 0)) (bu BK530.out) hb); have n5_ := As.mk (below_step (bl HB.out) hb); clear HO535; clear HO538; clear HO542; clear BK530; clear HB; have HO535 := n0_; have HO538 := n1_; have HO542 := n2_; have HO545 := n3_; have BK530 := n4_; have HB := n5_; clear n0_ n1_ n2_ n3_ n4_ n5_; (try clear hb); (try clear ho0)))
   refine bodyPost_ret (results_list (rs := [.tmp 6, .tmp 7, .tmp 8, .tmp 9]) rfl (by simp) (.tmp (.tmp (.tmp (.tmp .nil))))) rfl ?_
   exact ⟨_, _, by first | rfl | (simp [*] <;> rfl), by (with_reducible repeat (first | apply Kd.S_alloc | apply Kd.S_drewN | apply Kd.S_drew)); exact Kd.S_mono HO542.out (fun _ hk => hk.2), by (with_reducible repeat (first | apply Kd.S_alloc | apply Kd.S_drewN | apply Kd.S_drew)); exact Kd.S_mono HO545.out (fun _ hk => hk.1.2), bl HB.out⟩
end Go.Proofs.Yteadghhmoggjnaa.Q
end
