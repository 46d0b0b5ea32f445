import Derived.Test.YteadghhmoggjnaaFR10
import Derived.Test.YteadghhmoggjnaaFR14
import Derived.Test.YteadghhmoggjnaaFR5
set_option linter.unusedVariables false
set_option linter.unusedSimpArgs false
section
section
set_option maxHeartbeats 8000000
set_option maxRecDepth 100000
namespace Go.Proofs.YteadghhmoggjnaaB
open Go.RowKit
open Go.Proofs.Yteadghhmoggjnaa.Q (S33)
theorem hyph_len (l : List S33) (h : S33) : (hyph l h).length ≤ l.length + 1 := by
 unfold hyph
 split
 ·omega
 ·rw [List.length_append]; exact Nat.le_refl _
theorem hyph_mem {l : List S33} {h x : S33} (hx : x ∈ hyph l h) : x ∈ l ∨ x = h := by
 unfold hyph at hx
 split at hx
 ·exact .inl hx
 ·exact (List.mem_append.1 hx).imp id List.mem_singleton.1
theorem restL_mem {l : List S33} {x : S33} (hx : x ∈ restL l) : x ∈ l := List.dropWhile_subset _ hx
def PartsOf (l : List S33) (h : S33) (r : List S33 × List S33 × Bool) : Prop := r.1.length ≤ l.length + 1 ∧ (∀ x ∈ r.1, x ∈ l ∨ x = h) ∧ r.2.1.length ≤ l.length ∧ ∀ x ∈ r.2.1, x ∈ l
theorem parts_all (l : List S33) (h : S33) (b : Bool) : PartsOf l h (l, [], b) := ⟨by simp, fun x hx => .inl hx, by simp, fun x hx => by cases hx⟩
theorem parts_cut (l : List S33) (h : S33) (a k : Nat) : PartsOf l h (hyph (l.take a) h, restL (l.drop k), true) :=
  ⟨by have := hyph_len (l.take a) h; have h2 : (l.take a).length ≤ l.length := List.length_take_le' _ _; show (hyph (l.take a) h).length ≤ _; omega,
   fun x hx => (hyph_mem hx).imp List.mem_of_mem_take id, (by have := restL_le (l.drop k); have h2 : (l.drop k).length ≤ l.length := (by rw [List.length_drop]; omega); show (restL (l.drop k)).length ≤ _; omega), fun x hx => List.mem_of_mem_drop (restL_mem hx)⟩
theorem parts_at (l : List S33) (h : S33) (a k : Nat) : PartsOf l h (l.take a, restL (l.drop k), true) :=
  ⟨by have h2 : (l.take a).length ≤ l.length := List.length_take_le' _ _; show (l.take a).length ≤ _; omega,
   fun x hx => .inl (List.mem_of_mem_take hx), (parts_cut l h a k).2.2.1, (parts_cut l h a k).2.2.2⟩
theorem parts_ans (l : List S33) (len : Int) (h : S33) (i : Nat) : PartsOf l h (ansAt l len h i) := by
 unfold ansAt
 split
 ·exact parts_cut l h _ _
 ·split
  ·exact parts_at l h _ _
  ·split
   ·exact parts_cut l h _ _
   ·exact parts_at l h _ _
theorem parts_go (l : List S33) (len : Int) (h : S33) : ∀ f i, PartsOf l h (takeGo l len h f i)
 | 0, _ => parts_all l h false
 | f + 1, i => by
  unfold takeGo
  split
  ·split
   ·exact parts_all l h false
   ·split
    ·exact parts_go l len h f _
    ·exact parts_ans l len h i
  ·exact parts_all l h false
theorem parts_take (l : List S33) (len : Int) (h : S33) : PartsOf l h (takeL l len h) := by
 obtain ⟨h1, h2, h3, h4⟩ := parts_go (restL l) len h ((restL l).length + 1) 0
 have hl := restL_le l
 exact ⟨by unfold takeL; omega, fun x hx => (h2 x hx).imp restL_mem id, by unfold takeL; omega, fun x hx => restL_mem (h4 x hx)⟩
end Go.Proofs.YteadghhmoggjnaaB
end
section
namespace Go.Proofs.Yteadghhmoggjnaa.Q
open Go.RowKit Go.Proofs.YteadghhmoggjnaaW.PrintWords Go.Proofs.YteadghhmoggjnaaW.PrintLast Go.Proofs.YteadghhmoggjnaaW.PrintMore
attribute [local go_sem] max2_int max_two
def fill_check.f (l0 : List (S33)) (l1 : List Int) : Option (Int) := some (Go.Proofs.YteadghhmoggjnaaB.checkI l0 l1)
theorem fill_check.calls (A0 : Option Addr) (c0 : Nat) (l0 : List (S33)) (A1 : Option Addr) (c1 : Nat) (l1 : List Int) (r : Int) (w : World) (hr0 : Kd.C k33 w A0 l0.length l0) (hc0 : l0.length ≤ c0) (hr1 : Kd.C (Kd.int .i64) w A1 l1.length l1) (hc1 : l1.length ≤ c1) (h : fill_check.f l0 l1 = some r) :
  Calls Try.prog 26 #[.slice A0 l0.length c0, .slice A1 l1.length c1] w fun e w' => e = .returned (.int .i64 r) ∧ Below w.heap.size w w' := by
 obtain rfl := Option.some.inj h
 exact Go.Proofs.YteadghhmoggjnaaB.check_any A0 _ c0 l0 A1 _ c1 l1 (fun _ => True) w (Go.Proofs.YteadghhmoggjnaaB.rd_boxes hr0) hr0.2.1 (Go.Proofs.YteadghhmoggjnaaB.lens_of_C hr0) (Go.Proofs.YteadghhmoggjnaaB.rd_ints hr1) hr1.2.1
end Go.Proofs.Yteadghhmoggjnaa.Q
end
section
namespace Go.Proofs.Yteadghhmoggjnaa.Q
open Go.RowKit Go.Proofs.YteadghhmoggjnaaW.PrintWords Go.Proofs.YteadghhmoggjnaaW.PrintLast Go.Proofs.YteadghhmoggjnaaW.PrintMore
attribute [local go_sem] max2_int max_two
def fill_own.f (l0 : List (S33)) : Option ((List (S33))) := if Go.Proofs.YteadghhmoggjnaaB.okL l0 = true then some l0 else none
theorem fill_own.calls (A0 : Option Addr) (c0 : Nat) (l0 : List (S33)) (r : List (S33)) (w : World) (hr0 : Kd.C k33 w A0 l0.length l0) (hc0 : l0.length ≤ c0) (h : fill_own.f l0 = some r) :
  Calls Try.prog 32 #[.slice A0 l0.length c0] w fun e w' => ∃ v0_ : Value, e = .returned (v0_) ∧ Kd.S k33 33 w' w.heap.size (fun _ => True) v0_ r ∧ Below w.heap.size w w' := by
 obtain ⟨h1, rfl⟩ := Go.Proofs.YteadghhmoggjnaaB.of_if h
 exact Go.Proofs.YteadghhmoggjnaaB.fill_own_any A0 _ c0 l0 w hr0 (Go.Proofs.YteadghhmoggjnaaB.okL_len h1) (Go.Proofs.YteadghhmoggjnaaB.okL_small h1)
end Go.Proofs.Yteadghhmoggjnaa.Q
end
section
namespace Go.Proofs.Yteadghhmoggjnaa.Q
open Go.RowKit Go.Proofs.YteadghhmoggjnaaW.PrintWords Go.Proofs.YteadghhmoggjnaaW.PrintLast Go.Proofs.YteadghhmoggjnaaW.PrintMore
attribute [local go_sem] max2_int max_two
def glyph_Valid.f (a0_0 : Int) (a0_1 : Int) (a0_2 : Int) (a0_3 : Int) (a0_4 : ByteArray) (a0_5 : ByteArray) (l0_6 : List Int) : Option (Bool) := some (Go.Proofs.YteadghhmoggjnaaB.validB ⟨a0_0, a0_1, a0_2, a0_3, a0_4, a0_5, l0_6⟩)
theorem glyph_Valid.calls (a0_0 : Int) (a0_1 : Int) (a0_2 : Int) (a0_3 : Int) (a0_4 : ByteArray) (a0_5 : ByteArray) (A0_6 : Option Addr) (c0_6 : Nat) (l0_6 : List Int) (r : Bool) (w : World) (hr0_6 : Kd.C (Kd.int .i64) w A0_6 l0_6.length l0_6) (hc0_6 : l0_6.length ≤ c0_6) (h : glyph_Valid.f a0_0 a0_1 a0_2 a0_3 a0_4 a0_5 l0_6 = some r) :
  Calls Try.prog 55 #[.agg #[.int .i64 a0_0, .int .i64 a0_1, .int .i64 a0_2, .int .i64 a0_3, .string a0_4, .string a0_5, .slice A0_6 l0_6.length c0_6]] w fun e w' => e = .returned (.bool r) ∧ Below w.heap.size w w' := by
 obtain rfl := Option.some.inj h
 exact Go.Proofs.YteadghhmoggjnaaB.Valid_any ⟨a0_0, a0_1, a0_2, a0_3, a0_4, a0_5, l0_6⟩ A0_6 c0_6 w (Go.Proofs.YteadghhmoggjnaaB.rd_ints hr0_6) hr0_6.2.1
end Go.Proofs.Yteadghhmoggjnaa.Q
end
section
namespace Go.Proofs.Yteadghhmoggjnaa.Q
open Go.RowKit Go.Proofs.YteadghhmoggjnaaW.PrintWords Go.Proofs.YteadghhmoggjnaaW.PrintLast Go.Proofs.YteadghhmoggjnaaW.PrintMore
attribute [local go_sem] max2_int max_two
def fill_hyphens.f (a0_0 : Int) (a0_1 : Int) (a0_2 : Int) (a0_3 : Int) (a0_4 : ByteArray) (a0_5 : ByteArray) (l0_6 : List Int) : Option (Bool) := (glyph_Valid.f a0_0 a0_1 a0_2 a0_3 a0_4 a0_5 l0_6).bind fun t145 => (if t145 = true then (if a0_0 = 0 then (some true) else (some (a0_0 == 5))) else (some false))
theorem fill_hyphens.calls (a0_0 : Int) (a0_1 : Int) (a0_2 : Int) (a0_3 : Int) (a0_4 : ByteArray) (a0_5 : ByteArray) (A0_6 : Option Addr) (c0_6 : Nat) (l0_6 : List Int) (r : Bool) (w : World) (hr0_6 : Kd.C (Kd.int .i64) w A0_6 l0_6.length l0_6) (hc0_6 : l0_6.length ≤ c0_6) (h : fill_hyphens.f a0_0 a0_1 a0_2 a0_3 a0_4 a0_5 l0_6 = some r) :
  Calls Try.prog 38 #[.agg #[.int .i64 a0_0, .int .i64 a0_1, .int .i64 a0_2, .int .i64 a0_3, .string a0_4, .string a0_5, .slice A0_6 l0_6.length c0_6]] w fun e w' => e = .returned (.bool r) ∧ Below w.heap.size w w' := by
 have hu33 := Try.underlying33
 have HR0_6 := As.mk hr0_6
 have HC0_6 := As.mk hc0_6
 clear hr0_6 hc0_6
 have HB := As.mk (Below.refl w.heap.size w)
 have H : ((glyph_Valid.f a0_0 a0_1 a0_2 a0_3 a0_4 a0_5 l0_6).bind fun t145 => (if t145 = true then (if a0_0 = 0 then (some true) else (some (a0_0 == 5))) else (some false))) = some r := h
 clear h
 replace H := Option.bind_eq_some_iff.mp H
 obtain ⟨t145, A20, H⟩ := H
 try dsimp only at H
 have A2 := As.mk A20
 clear A20
 by_cases c3 : t145 = true
 rotate_left
 ·replace c3 := Bool.eq_false_iff.mpr c3
  subst c3
  have H1 : (some false) = some r := by rw [if_neg (show ¬ (false = true) by decide)] at H; exact H
  clear H
  have H := H1
  clear H1
  obtain rfl := Option.some.inj H
  go_enter Try.func38, Try.ntmps38
  go_wp2_with (first | ((with_reducible refine gate_dst (N := 1) rfl ?_); refine box_event ?hg (N := 1) ?hd (cs := #[.int .i64 a0_0, .int .i64 a0_1, .int .i64 a0_2, .int .i64 a0_3, .string a0_4, .string a0_5, .slice A0_6 l0_6.length c0_6]) (t := 33) ?hr ?_; (case hd => rfl); (case hg => rfl); (case hr => first | (go_simp; done) | (go_simp; rfl)); intro gb144 hg w13 hbox hb; have n0_ := As.mk (below_step (bl HB.out) hb); have n1_ := As.mk (hbox); have n2_ := As.mk ((by rw [hg]; exact (below_size (bl HB.out)) : w.heap.size ≤ gb144)); have n3_ := As.mk ((by rw [hg]; exact (below_size (bl HB.out)) : w.heap.size ≤ gb144)); clear HB; have HB := n0_; have BK144 := n1_; have GW144 := n2_; have GE144 := n3_; clear n0_ n1_ n2_ n3_; clear hb hbox hg; have z14 := box7 BK144.out) | (go_at_call 55; (with_reducible refine (glyph_Valid.calls a0_0 a0_1 a0_2 a0_3 a0_4 a0_5 _ _ l0_6 false _ ?side1 ?side2 A2.out).mono ?_); (case side1 => exact Kd.C_below HR0_6.out (bl HB.out)); (case side2 => exact HC0_6.out); rintro e w15 ⟨rfl, hb⟩; have n0_ := As.mk (blk_below (g := gb144) (o := .cells #[.int .i64 a0_0, .int .i64 a0_1, .int .i64 a0_2, .int .i64 a0_3, .string a0_4, .string a0_5, .slice A0_6 l0_6.length c0_6] 33 (0, 0)) (bu BK144.out) hb); have n1_ := As.mk (below_step (bl HB.out) hb); clear BK144; clear HB; have BK144 := n0_; have HB := n1_; clear n0_ n1_; (try clear hb)))
  go_ret
  exact ⟨by first | rfl | (simp [*] <;> rfl), bl HB.out⟩
 subst c3
 have H1 : (if a0_0 = 0 then (some true) else (some (a0_0 == 5))) = some r := by rw [if_pos rfl] at H; exact H
 clear H
 have H := H1
 clear H1
 by_cases c4 : a0_0 = 0
 rotate_left
 ·rw [if_neg c4] at H
  have c4b0 : (a0_0 == 0) = false := beq_eq_false_iff_ne.mpr c4
  have c4b1 : (a0_0 != 0) = true := bne_iff_ne.mpr c4
  obtain rfl := Option.some.inj H
  go_enter Try.func38, Try.ntmps38
  go_wp2_with (first | ((with_reducible refine gate_dst (N := 1) rfl ?_); refine box_event ?hg (N := 1) ?hd (cs := #[.int .i64 a0_0, .int .i64 a0_1, .int .i64 a0_2, .int .i64 a0_3, .string a0_4, .string a0_5, .slice A0_6 l0_6.length c0_6]) (t := 33) ?hr ?_; (case hd => rfl); (case hg => rfl); (case hr => first | (go_simp; done) | (go_simp; rfl)); intro gb144 hg w9 hbox hb; have n0_ := As.mk (below_step (bl HB.out) hb); have n1_ := As.mk (hbox); have n2_ := As.mk ((by rw [hg]; exact (below_size (bl HB.out)) : w.heap.size ≤ gb144)); have n3_ := As.mk ((by rw [hg]; exact (below_size (bl HB.out)) : w.heap.size ≤ gb144)); clear HB; have HB := n0_; have BK144 := n1_; have GW144 := n2_; have GE144 := n3_; clear n0_ n1_ n2_ n3_; clear hb hbox hg; have z10 := box7 BK144.out) | (go_at_call 55; (with_reducible refine (glyph_Valid.calls a0_0 a0_1 a0_2 a0_3 a0_4 a0_5 _ _ l0_6 true _ ?side1 ?side2 A2.out).mono ?_); (case side1 => exact Kd.C_below HR0_6.out (bl HB.out)); (case side2 => exact HC0_6.out); rintro e w11 ⟨rfl, hb⟩; have n0_ := As.mk (blk_below (g := gb144) (o := .cells #[.int .i64 a0_0, .int .i64 a0_1, .int .i64 a0_2, .int .i64 a0_3, .string a0_4, .string a0_5, .slice A0_6 l0_6.length c0_6] 33 (0, 0)) (bu BK144.out) hb); have n1_ := As.mk (below_step (bl HB.out) hb); clear BK144; clear HB; have BK144 := n0_; have HB := n1_; clear n0_ n1_; (try clear hb); have z12 := box7 BK144.out))
  go_ret
  exact ⟨by first | rfl | (simp [*] <;> rfl), bl HB.out⟩
 rw [if_pos c4] at H
 have c4b0 : (a0_0 == 0) = true := beq_iff_eq.mpr c4
 have c4b1 : (a0_0 != 0) = false := bne_eq_false_iff_eq.mpr c4
 clear c4
 obtain rfl := Option.some.inj H
 go_enter Try.func38, Try.ntmps38
 go_wp2_with (first | ((with_reducible refine gate_dst (N := 1) rfl ?_); refine box_event ?hg (N := 1) ?hd (cs := #[.int .i64 a0_0, .int .i64 a0_1, .int .i64 a0_2, .int .i64 a0_3, .string a0_4, .string a0_5, .slice A0_6 l0_6.length c0_6]) (t := 33) ?hr ?_; (case hd => rfl); (case hg => rfl); (case hr => first | (go_simp; done) | (go_simp; rfl)); intro gb144 hg w5 hbox hb; have n0_ := As.mk (below_step (bl HB.out) hb); have n1_ := As.mk (hbox); have n2_ := As.mk ((by rw [hg]; exact (below_size (bl HB.out)) : w.heap.size ≤ gb144)); have n3_ := As.mk ((by rw [hg]; exact (below_size (bl HB.out)) : w.heap.size ≤ gb144)); clear HB; have HB := n0_; have BK144 := n1_; have GW144 := n2_; have GE144 := n3_; clear n0_ n1_ n2_ n3_; clear hb hbox hg; have z6 := box7 BK144.out) | (go_at_call 55; (with_reducible refine (glyph_Valid.calls a0_0 a0_1 a0_2 a0_3 a0_4 a0_5 _ _ l0_6 true _ ?side1 ?side2 A2.out).mono ?_); (case side1 => exact Kd.C_below HR0_6.out (bl HB.out)); (case side2 => exact HC0_6.out); rintro e w7 ⟨rfl, hb⟩; have n0_ := As.mk (blk_below (g := gb144) (o := .cells #[.int .i64 a0_0, .int .i64 a0_1, .int .i64 a0_2, .int .i64 a0_3, .string a0_4, .string a0_5, .slice A0_6 l0_6.length c0_6] 33 (0, 0)) (bu BK144.out) hb); have n1_ := As.mk (below_step (bl HB.out) hb); clear BK144; clear HB; have BK144 := n0_; have HB := n1_; clear n0_ n1_; (try clear hb); have z8 := box7 BK144.out))
 go_ret
 exact ⟨by first | rfl | (simp [*] <;> rfl), bl HB.out⟩
end Go.Proofs.Yteadghhmoggjnaa.Q
end
section
namespace Go.Proofs.Yteadghhmoggjnaa.Q
open Go.RowKit Go.Proofs.YteadghhmoggjnaaW.PrintWords Go.Proofs.YteadghhmoggjnaaW.PrintLast Go.Proofs.YteadghhmoggjnaaW.PrintMore
attribute [local go_sem] max2_int max_two
def fill_take.f (l0 : List (S33)) (a1 : Int) (a2_0 : Int) (a2_1 : Int) (a2_2 : Int) (a2_3 : Int) (a2_4 : ByteArray) (a2_5 : ByteArray) (l2_6 : List Int) : Option ((List (S33)) × (List (S33)) × Bool) := if Go.Proofs.YteadghhmoggjnaaB.okL l0 = true then some (Go.Proofs.YteadghhmoggjnaaB.takeL l0 a1 ⟨a2_0, a2_1, a2_2, a2_3, a2_4, a2_5, l2_6⟩) else none
theorem fill_take.calls (P0_ : Nat → Prop) (A0 : Option Addr) (c0 : Nat) (l0 : List (S33)) (a1 : Int) (a2_0 : Int) (a2_1 : Int) (a2_2 : Int) (a2_3 : Int) (a2_4 : ByteArray) (a2_5 : ByteArray) (P2_6_ : Nat → Prop) (A2_6 : Option Addr) (c2_6 : Nat) (l2_6 : List Int) (r1 : List (S33)) (r2 : List (S33)) (r3 : Bool) (w : World) (hs0 : Kd.V k33 33 w w.heap.size (fun k_ => P0_ k_) (.slice A0 l0.length c0) l0) (hs2_6 : Kd.V (Kd.int .i64) 3 w w.heap.size (fun k_ => P2_6_ k_) (.slice A2_6 l2_6.length c2_6) l2_6) (h : fill_take.f l0 a1 a2_0 a2_1 a2_2 a2_3 a2_4 a2_5 l2_6 = some (r1, r2, r3)) :
  Calls Try.prog 39 #[.slice A0 l0.length c0, .int .i64 a1, .agg #[.int .i64 a2_0, .int .i64 a2_1, .int .i64 a2_2, .int .i64 a2_3, .string a2_4, .string a2_5, .slice A2_6 l2_6.length c2_6]] w fun e w' => ∃ v0_ v1_ : Value, e = .returned (.tuple #[v0_, v1_, .bool r3]) ∧ Kd.V k33 33 w' w.heap.size (fun k_ => ((P0_ k_ ∨ P2_6_ k_) ∨ w.heap.size ≤ k_)) v0_ r1 ∧ Kd.V k33 33 w' w.heap.size (fun k_ => ((P0_ k_ ∨ P2_6_ k_) ∨ w.heap.size ≤ k_)) v1_ r2 ∧ Below w.heap.size w w' := by
 obtain ⟨h1, h2⟩ := Go.Proofs.YteadghhmoggjnaaB.of_if h
 have hm := hs2_6
 have q := Go.Proofs.YteadghhmoggjnaaB.take_any A0 l0.length c0 l0 (fun k => P0_ k ∨ P2_6_ k) w ((Go.Proofs.YteadghhmoggjnaaB.rd_of_F (Kd.V_F hs0)).weaken (fun _ hk => .inl hk)) (Kd.V_at hs0).2.1 (Go.Proofs.YteadghhmoggjnaaB.okL_len h1) (Go.Proofs.YteadghhmoggjnaaB.okL_max h1) a1 ⟨a2_0, a2_1, a2_2, a2_3, a2_4, a2_5, l2_6⟩ A2_6 c2_6 ((Go.Proofs.YteadghhmoggjnaaB.rd_of_Fi (Kd.V_F hs2_6)).weaken (fun _ hk => .inr hk)) (Kd.V_at hs2_6).2.1
 have p := Go.Proofs.YteadghhmoggjnaaB.parts_take l0 a1 ⟨a2_0, a2_1, a2_2, a2_3, a2_4, a2_5, l2_6⟩
 rw [h2] at q p
 obtain ⟨p1, p2, p3, p4⟩ := p
 have hl := Go.Proofs.YteadghhmoggjnaaB.okL_len h1
 have h6 : l2_6.length ≤ 9223372036854775807 := Kd.F_max (Kd.V_F hs2_6)
 dsimp only at p1 p2 p3 p4
 refine q.mono ?_
 rintro e w' ⟨v1, v2, he, q1, q2, hb⟩
 exact ⟨v1, v2, he, Go.Proofs.YteadghhmoggjnaaB.V_of_slrd (q1.weaken (fun k hk => hk.imp And.left id)) (by omega) (fun x hx => by
  rcases p2 x hx with h | rfl
  ·exact Go.Proofs.YteadghhmoggjnaaB.okL_max h1 x h
  ·exact h6), Go.Proofs.YteadghhmoggjnaaB.V_of_slrd (q2.weaken (fun k hk => hk.imp And.left id)) (by omega) (fun x hx => Go.Proofs.YteadghhmoggjnaaB.okL_max h1 x (p4 x hx)), hb⟩
end Go.Proofs.Yteadghhmoggjnaa.Q
end
end
section
namespace Go.Proofs.Yteadghhmoggjnaa.Q
open Go.RowKit Go.Proofs.YteadghhmoggjnaaW.PrintWords Go.Proofs.YteadghhmoggjnaaW.PrintLast Go.Proofs.YteadghhmoggjnaaW.PrintMore
attribute [local go_sem] max2_int max_two
set_option maxHeartbeats 8000000
set_option maxRecDepth 100000
def r_Blank.f (a0_0 : Int) (a0_1 : Int) (a0_2 : Int) (a0_3 : Int) (a0_4 : ByteArray) (a0_5 : ByteArray) (l0_6 : List Int) : Option (Bool) := if a0_0 = 1 then (some (a0_4.toList != ([126] : List UInt8))) else (some false)
theorem r_Blank.calls (a0_0 : Int) (a0_1 : Int) (a0_2 : Int) (a0_3 : Int) (a0_4 : ByteArray) (a0_5 : ByteArray) (A0_6 : Option Addr) (c0_6 : Nat) (l0_6 : List Int) (r : Bool) (w : World) (hr0_6 : Kd.C (Kd.int .i64) w A0_6 l0_6.length l0_6) (hc0_6 : l0_6.length ≤ c0_6) (h : r_Blank.f a0_0 a0_1 a0_2 a0_3 a0_4 a0_5 l0_6 = some r) :
  Calls Try.prog 22 #[.agg #[.int .i64 a0_0, .int .i64 a0_1, .int .i64 a0_2, .int .i64 a0_3, .string a0_4, .string a0_5, .slice A0_6 l0_6.length c0_6]] w fun e w' => e = .returned (.bool r) ∧ Below w.heap.size w w' := by
 have hu33 := Try.underlying33
 have HR0_6 := As.mk hr0_6
 have HC0_6 := As.mk hc0_6
 clear hr0_6 hc0_6
 have HB := As.mk (Below.refl w.heap.size w)
 have H : (if a0_0 = 1 then (some (a0_4.toList != ([126] : List UInt8))) else (some false)) = some r := h
 clear h
 by_cases c2 : a0_0 = 1
 rotate_left
 ·rw [if_neg c2] at H
  have c2b0 : (a0_0 == 1) = false := beq_eq_false_iff_ne.mpr c2
  have c2b1 : (a0_0 != 1) = true := bne_iff_ne.mpr c2
  obtain rfl := Option.some.inj H
  go_enter Try.func22, Try.ntmps22
  go_wp2_with (first | ((with_reducible refine gate_dst (N := 1) rfl ?_); refine box_event ?hg (N := 1) ?hd (cs := #[.int .i64 a0_0, .int .i64 a0_1, .int .i64 a0_2, .int .i64 a0_3, .string a0_4, .string a0_5, .slice A0_6 l0_6.length c0_6]) (t := 33) ?hr ?_; (case hd => rfl); (case hg => rfl); (case hr => first | (go_simp; done) | (go_simp; rfl)); intro gb349 hg w5 hbox hb; have n0_ := As.mk (below_step (bl HB.out) hb); have n1_ := As.mk (hbox); have n2_ := As.mk ((by rw [hg]; exact (below_size (bl HB.out)) : w.heap.size ≤ gb349)); have n3_ := As.mk ((by rw [hg]; exact (below_size (bl HB.out)) : w.heap.size ≤ gb349)); clear HB; have HB := n0_; have BK349 := n1_; have GW349 := n2_; have GE349 := n3_; clear n0_ n1_ n2_ n3_; clear hb hbox hg; have z6 := box7 BK349.out))
  go_ret
  exact ⟨by first | rfl | (simp [*] <;> rfl), bl HB.out⟩
 rw [if_pos c2] at H
 have c2b0 : (a0_0 == 1) = true := beq_iff_eq.mpr c2
 have c2b1 : (a0_0 != 1) = false := bne_eq_false_iff_eq.mpr c2
 clear c2
 obtain rfl := Option.some.inj H
 go_enter Try.func22, Try.ntmps22
 go_wp2_with (first | ((with_reducible refine gate_dst (N := 1) rfl ?_); refine box_event ?hg (N := 1) ?hd (cs := #[.int .i64 a0_0, .int .i64 a0_1, .int .i64 a0_2, .int .i64 a0_3, .string a0_4, .string a0_5, .slice A0_6 l0_6.length c0_6]) (t := 33) ?hr ?_; (case hd => rfl); (case hg => rfl); (case hr => first | (go_simp; done) | (go_simp; rfl)); intro gb349 hg w3 hbox hb; have n0_ := As.mk (below_step (bl HB.out) hb); have n1_ := As.mk (hbox); have n2_ := As.mk ((by rw [hg]; exact (below_size (bl HB.out)) : w.heap.size ≤ gb349)); have n3_ := As.mk ((by rw [hg]; exact (below_size (bl HB.out)) : w.heap.size ≤ gb349)); clear HB; have HB := n0_; have BK349 := n1_; have GW349 := n2_; have GE349 := n3_; clear n0_ n1_ n2_ n3_; clear hb hbox hg; have z4 := box7 BK349.out))
 go_ret
 exact ⟨by first | rfl | (simp [*] <;> rfl), bl HB.out⟩
def r_word.l0 : Nat → List (S33) → Int → Int → Option (Int)
 | 0, _, _, _ => none
 | k + 1, x0, x1, x5 => if (wrap64 (x1 + x5)) < (x0.length : Int) then (if 0 ≤ (wrap64 (x1 + x5)) then ((r_Blank.f ((rd_T33 x0 (wrap64 (x1 + x5))).f0) ((rd_T33 x0 (wrap64 (x1 + x5))).f1) ((rd_T33 x0 (wrap64 (x1 + x5))).f2) ((rd_T33 x0 (wrap64 (x1 + x5))).f3) ((rd_T33 x0 (wrap64 (x1 + x5))).f4) ((rd_T33 x0 (wrap64 (x1 + x5))).f5) ((rd_T33 x0 (wrap64 (x1 + x5))).f6)).bind fun t351 => (if t351 = true then (some x5) else (r_word.l0 k x0 x1 (wrap64 (x5 + 1))))) else (none)) else (some x5)
def r_word.f (k : Nat) (l0 : List (S33)) (a1 : Int) : Option (Int) := r_word.l0 k l0 a1 0
theorem r_word.calls (k : Nat) (A0 : Option Addr) (c0 : Nat) (l0 : List (S33)) (a1 : Int) (r : Int) (w : World) (hr0 : Kd.C k33 w A0 l0.length l0) (hc0 : l0.length ≤ c0) (h : r_word.f k l0 a1 = some r) :
  Calls Try.prog 41 #[.slice A0 l0.length c0, .int .i64 a1] w fun e w' => e = .returned (.int .i64 r) ∧ Below w.heap.size w w' := by
 have hu33 := Try.underlying33
 have HR0 := As.mk hr0
 have HC0 := As.mk hc0
 clear hr0 hc0
 have HB := As.mk (Below.refl w.heap.size w)
 have H : (r_word.l0 k l0 a1 0) = some r := h
 clear h
 have H' := As.mk H
 clear H
 go_enter Try.func41, Try.ntmps41
 go_wp2
 go_loopg [5] k (fun kq v5 w' => ∃ (x5_1 : Int), v5 = .int .i64 x5_1 ∧ As (r_word.l0 kq l0 a1 x5_1 = some r) ∧ As (kq ≤ k) ∧ As (Below w.heap.size w w'))
 case atStart => exact ⟨(0), (by first | rfl | simp [*]), H', ⟨Nat.le_refl _⟩, ⟨bl HB.out⟩⟩
 case round =>
  clear H'
  obtain ⟨x5_1, rfl, HA, HK1, HB⟩ := hrel
  cases gk with
  | zero => exact absurd HA.out (by simp [r_word.l0])
  | succ k1 =>
   have H := HA.out
   clear HA
   simp only [r_word.l0] at H
   by_cases c3 : (wrap64 (a1 + x5_1)) < (l0.length : Int)
   rotate_left
   ·rw [if_neg c3] at H
    have c3b0 := decide_eq_false c3
    clear c3
    obtain rfl := Option.some.inj H
    go_wp2
    go_ret
    exact ⟨by first | rfl | (simp [*] <;> rfl), bl HB.out⟩
   rw [if_pos c3] at H
   have c3b0 := decide_eq_true c3
   clear c3
   obtain ⟨ji4, hji4⟩ : ∃ j_ : Int, (wrap64 (a1 + x5_1)) = j_ := ⟨_, rfl⟩
   replace H : (if 0 ≤ (ji4) then ((r_Blank.f ((rd_T33 l0 (ji4)).f0) ((rd_T33 l0 (ji4)).f1) ((rd_T33 l0 (ji4)).f2) ((rd_T33 l0 (ji4)).f3) ((rd_T33 l0 (ji4)).f4) ((rd_T33 l0 (ji4)).f5) ((rd_T33 l0 (ji4)).f6)).bind fun t351 => (if t351 = true then (some x5_1) else (r_word.l0 k1 l0 a1 (wrap64 (x5_1 + 1))))) else (none)) = some r := by first | (rw [hji4] at H; exact H) | (simp only [hji4] at H ⊢; exact H)
   (try rw [hji4] at c3b0)
   have hji4w : (IntKind.i64.wrap (a1 + x5_1)) = ji4 := (i64_w _).trans hji4
   by_cases c5 : 0 ≤ (ji4)
   rotate_left
   ·rw [if_neg c5] at H
    exact absurd H (by simp)
   rw [if_pos c5] at H
   have c5b0 := decide_eq_true c5
   clear c5
   replace H := Option.bind_eq_some_iff.mp H
   obtain ⟨t351, A60, H⟩ := H
   try dsimp only at H
   have A6 := As.mk A60
   clear A60
   by_cases c7 : t351 = true
   ·subst c7
    have H1 : (some x5_1) = some r := by rw [if_pos rfl] at H; exact H
    clear H
    have H := H1
    clear H1
    obtain rfl := Option.some.inj H
    have p350 : 0 ≤ ((ji4) : Int) := of_decide_eq_true (by with_reducible assumption)
    have q350 : (ji4) < (l0.length : Int) := of_decide_eq_true (by with_reducible assumption)
    obtain ⟨ad350, A350_6, c350_6, e350, hx350_0, hx350_1, hx350_2, hx350_3, hx350_4, hx350_5, hx350_6, hl350_6, hi350_6⟩ := at_T33 HR0.out (ji4) p350 q350
    cases e350
    replace hx350_0 := ct HB.out hx350_0
    replace hx350_1 := ct HB.out hx350_1
    replace hx350_2 := ct HB.out hx350_2
    replace hx350_3 := ct HB.out hx350_3
    replace hx350_4 := ct HB.out hx350_4
    replace hx350_5 := ct HB.out hx350_5
    replace hx350_6 := ct HB.out hx350_6
    have HR350_6 := As.mk hi350_6
    have HC350_6 := As.mk hl350_6
    clear hi350_6 hl350_6
    replace p350 := eq_true p350
    replace q350 := eq_true q350
    go_wp2_with (first | (go_at_call 22; (with_reducible refine (r_Blank.calls ((rd_T33 l0 (ji4)).f0) ((rd_T33 l0 (ji4)).f1) ((rd_T33 l0 (ji4)).f2) ((rd_T33 l0 (ji4)).f3) ((rd_T33 l0 (ji4)).f4) ((rd_T33 l0 (ji4)).f5) _ _ ((rd_T33 l0 (ji4)).f6) true _ ?side1 ?side2 A6.out).mono ?_); (case side1 => exact Kd.C_below HR350_6.out (bl HB.out)); (case side2 => exact HC350_6.out); rintro e w8 ⟨rfl, hb⟩; have n0_ := As.mk (below_step (bl HB.out) hb); clear HB; have HB := n0_; clear n0_; (try clear hb)))
    go_ret
    exact ⟨by first | rfl | (simp [errW_none, errW_some] <;> rfl) | (simp only [← hji4]; first | rfl | (simp [errW_none, errW_some] <;> rfl)) | (simp [*, errW_none, errW_some] <;> rfl), bl HB.out⟩
   replace c7 := Bool.eq_false_iff.mpr c7
   subst c7
   have H1 : (r_word.l0 k1 l0 a1 (wrap64 (x5_1 + 1))) = some r := by rw [if_neg (show ¬ (false = true) by decide)] at H; exact H
   clear H
   have H := H1
   clear H1
   have H' := As.mk H
   clear H
   have p350 : 0 ≤ ((ji4) : Int) := of_decide_eq_true (by with_reducible assumption)
   have q350 : (ji4) < (l0.length : Int) := of_decide_eq_true (by with_reducible assumption)
   obtain ⟨ad350, A350_6, c350_6, e350, hx350_0, hx350_1, hx350_2, hx350_3, hx350_4, hx350_5, hx350_6, hl350_6, hi350_6⟩ := at_T33 HR0.out (ji4) p350 q350
   cases e350
   replace hx350_0 := ct HB.out hx350_0
   replace hx350_1 := ct HB.out hx350_1
   replace hx350_2 := ct HB.out hx350_2
   replace hx350_3 := ct HB.out hx350_3
   replace hx350_4 := ct HB.out hx350_4
   replace hx350_5 := ct HB.out hx350_5
   replace hx350_6 := ct HB.out hx350_6
   have HR350_6 := As.mk hi350_6
   have HC350_6 := As.mk hl350_6
   clear hi350_6 hl350_6
   replace p350 := eq_true p350
   replace q350 := eq_true q350
   go_wp2_with (first | (go_at_call 22; (with_reducible refine (r_Blank.calls ((rd_T33 l0 (ji4)).f0) ((rd_T33 l0 (ji4)).f1) ((rd_T33 l0 (ji4)).f2) ((rd_T33 l0 (ji4)).f3) ((rd_T33 l0 (ji4)).f4) ((rd_T33 l0 (ji4)).f5) _ _ ((rd_T33 l0 (ji4)).f6) false _ ?side1 ?side2 A6.out).mono ?_); (case side1 => exact Kd.C_below HR350_6.out (bl HB.out)); (case side2 => exact HC350_6.out); rintro e w9 ⟨rfl, hb⟩; have n0_ := As.mk (below_step (bl HB.out) hb); clear HB; have HB := n0_; clear n0_; (try clear hb)))
   go_roundg k1
   case measure => have := HK1.out; omega
   case rel => exact ⟨(wrap64 (x5_1 + 1)), (by first | rfl | simp [*]), H', ⟨by have := HK1.out; omega⟩, ⟨bl HB.out⟩⟩
end Go.Proofs.Yteadghhmoggjnaa.Q
end
