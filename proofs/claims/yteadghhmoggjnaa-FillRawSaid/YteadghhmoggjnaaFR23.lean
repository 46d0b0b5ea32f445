import Derived.Test.YteadghhmoggjnaaFR10
import Derived.Test.YteadghhmoggjnaaFR5
import Derived.Test.YteadghhmoggjnaaFR22
import Derived.Test.YteadghhmoggjnaaFR17
import Derived.Test.YteadghhmoggjnaaFR18
import Derived.Test.YteadghhmoggjnaaFR16
import Derived.Test.YteadghhmoggjnaaFR19
import Derived.Test.YteadghhmoggjnaaFR20
import Derived.Test.YteadghhmoggjnaaFR21
set_option linter.unusedVariables false
set_option linter.unusedSimpArgs false
section
namespace Go.Proofs.Yteadghhmoggjnaa.Q
open Go.RowKit Go.Proofs.YteadghhmoggjnaaW.PrintWords Go.Proofs.YteadghhmoggjnaaW.PrintLast Go.Proofs.YteadghhmoggjnaaW.PrintMore
attribute [local go_sem] max2_int max_two
set_option maxHeartbeats 8000000
set_option maxRecDepth 100000
def r_isHyphen.f (k : Nat) (a0_0 : Int) (a0_1 : Int) (a0_2 : Int) (a0_3 : Int) (a0_4 : ByteArray) (a0_5 : ByteArray) (l0_6 : List Int) : Option (Bool) := (s_Valid.f k a0_0 a0_1 a0_2 a0_3 a0_4 a0_5 l0_6).bind fun t424 => (if t424 = true then (if a0_0 = 0 then (some true) else (some (a0_0 == 5))) else (some false))
theorem r_isHyphen.calls (k : Nat) (a0_0 : Int) (a0_1 : Int) (a0_2 : Int) (a0_3 : Int) (a0_4 : ByteArray) (a0_5 : ByteArray) (A0_6 : Option Addr) (c0_6 : Nat) (l0_6 : List Int) (r : Bool) (w : World) (hr0_6 : Kd.C (Kd.int .i64) w A0_6 l0_6.length l0_6) (hc0_6 : l0_6.length ≤ c0_6) (h : r_isHyphen.f k a0_0 a0_1 a0_2 a0_3 a0_4 a0_5 l0_6 = some r) :
  Calls Try.prog 68 #[.agg #[.int .i64 a0_0, .int .i64 a0_1, .int .i64 a0_2, .int .i64 a0_3, .string a0_4, .string a0_5, .slice A0_6 l0_6.length c0_6]] w fun e w' => e = .returned (.bool r) ∧ Below w.heap.size w w' := by
 have hu33 := Try.underlying33
 have HR0_6 := As.mk hr0_6
 have HC0_6 := As.mk hc0_6
 clear hr0_6 hc0_6
 have HB := As.mk (Below.refl w.heap.size w)
 have H : ((s_Valid.f k a0_0 a0_1 a0_2 a0_3 a0_4 a0_5 l0_6).bind fun t424 => (if t424 = true then (if a0_0 = 0 then (some true) else (some (a0_0 == 5))) else (some false))) = some r := h
 clear h
 replace H := Option.bind_eq_some_iff.mp H
 obtain ⟨t424, A20, H⟩ := H
 try dsimp only at H
 have A2 := As.mk A20
 clear A20
 by_cases c3 : t424 = true
 rotate_left
 ·replace c3 := Bool.eq_false_iff.mpr c3
  subst c3
  have H1 : (some false) = some r := by rw [if_neg (show ¬ (false = true) by decide)] at H; exact H
  clear H
  have H := H1
  clear H1
  obtain rfl := Option.some.inj H
  go_enter Try.func68, Try.ntmps68
  go_wp2_with (first | ((with_reducible refine gate_dst (N := 1) rfl ?_); refine box_event ?hg (N := 1) ?hd (cs := #[.int .i64 a0_0, .int .i64 a0_1, .int .i64 a0_2, .int .i64 a0_3, .string a0_4, .string a0_5, .slice A0_6 l0_6.length c0_6]) (t := 33) ?hr ?_; (case hd => rfl); (case hg => rfl); (case hr => first | (go_simp; done) | (go_simp; rfl)); intro gb423 hg w13 hbox hb; have n0_ := As.mk (below_step (bl HB.out) hb); have n1_ := As.mk (hbox); have n2_ := As.mk ((by rw [hg]; exact (below_size (bl HB.out)) : w.heap.size ≤ gb423)); have n3_ := As.mk ((by rw [hg]; exact (below_size (bl HB.out)) : w.heap.size ≤ gb423)); clear HB; have HB := n0_; have BK423 := n1_; have GW423 := n2_; have GE423 := n3_; clear n0_ n1_ n2_ n3_; clear hb hbox hg; have z14 := box7 BK423.out) | (go_at_call 79; (with_reducible refine (s_Valid.calls k a0_0 a0_1 a0_2 a0_3 a0_4 a0_5 _ _ l0_6 false _ ?side1 ?side2 A2.out).mono ?_); (case side1 => exact Kd.C_below HR0_6.out (bl HB.out)); (case side2 => exact HC0_6.out); rintro e w15 ⟨rfl, hb⟩; have n0_ := As.mk (blk_below (g := gb423) (o := .cells #[.int .i64 a0_0, .int .i64 a0_1, .int .i64 a0_2, .int .i64 a0_3, .string a0_4, .string a0_5, .slice A0_6 l0_6.length c0_6] 33 (0, 0)) (bu BK423.out) hb); have n1_ := As.mk (below_step (bl HB.out) hb); clear BK423; clear HB; have BK423 := n0_; have HB := n1_; clear n0_ n1_; (try clear hb)))
  go_ret
  exact ⟨by first | rfl | (simp [*] <;> rfl), bl HB.out⟩
 subst c3
 have H1 : (if a0_0 = 0 then (some true) else (some (a0_0 == 5))) = some r := by rw [if_pos rfl] at H; exact H
 clear H
 have H := H1
 clear H1
 by_cases c4 : a0_0 = 0
 rotate_left
 ·rw [if_neg c4] at H
  have c4b0 : (a0_0 == 0) = false := beq_eq_false_iff_ne.mpr c4
  have c4b1 : (a0_0 != 0) = true := bne_iff_ne.mpr c4
  obtain rfl := Option.some.inj H
  go_enter Try.func68, Try.ntmps68
  go_wp2_with (first | ((with_reducible refine gate_dst (N := 1) rfl ?_); refine box_event ?hg (N := 1) ?hd (cs := #[.int .i64 a0_0, .int .i64 a0_1, .int .i64 a0_2, .int .i64 a0_3, .string a0_4, .string a0_5, .slice A0_6 l0_6.length c0_6]) (t := 33) ?hr ?_; (case hd => rfl); (case hg => rfl); (case hr => first | (go_simp; done) | (go_simp; rfl)); intro gb423 hg w9 hbox hb; have n0_ := As.mk (below_step (bl HB.out) hb); have n1_ := As.mk (hbox); have n2_ := As.mk ((by rw [hg]; exact (below_size (bl HB.out)) : w.heap.size ≤ gb423)); have n3_ := As.mk ((by rw [hg]; exact (below_size (bl HB.out)) : w.heap.size ≤ gb423)); clear HB; have HB := n0_; have BK423 := n1_; have GW423 := n2_; have GE423 := n3_; clear n0_ n1_ n2_ n3_; clear hb hbox hg; have z10 := box7 BK423.out) | (go_at_call 79; (with_reducible refine (s_Valid.calls k a0_0 a0_1 a0_2 a0_3 a0_4 a0_5 _ _ l0_6 true _ ?side1 ?side2 A2.out).mono ?_); (case side1 => exact Kd.C_below HR0_6.out (bl HB.out)); (case side2 => exact HC0_6.out); rintro e w11 ⟨rfl, hb⟩; have n0_ := As.mk (blk_below (g := gb423) (o := .cells #[.int .i64 a0_0, .int .i64 a0_1, .int .i64 a0_2, .int .i64 a0_3, .string a0_4, .string a0_5, .slice A0_6 l0_6.length c0_6] 33 (0, 0)) (bu BK423.out) hb); have n1_ := As.mk (below_step (bl HB.out) hb); clear BK423; clear HB; have BK423 := n0_; have HB := n1_; clear n0_ n1_; (try clear hb); have z12 := box7 BK423.out))
  go_ret
  exact ⟨by first | rfl | (simp [*] <;> rfl), bl HB.out⟩
 rw [if_pos c4] at H
 have c4b0 : (a0_0 == 0) = true := beq_iff_eq.mpr c4
 have c4b1 : (a0_0 != 0) = false := bne_eq_false_iff_eq.mpr c4
 clear c4
 obtain rfl := Option.some.inj H
 go_enter Try.func68, Try.ntmps68
 go_wp2_with (first | ((with_reducible refine gate_dst (N := 1) rfl ?_); refine box_event ?hg (N := 1) ?hd (cs := #[.int .i64 a0_0, .int .i64 a0_1, .int .i64 a0_2, .int .i64 a0_3, .string a0_4, .string a0_5, .slice A0_6 l0_6.length c0_6]) (t := 33) ?hr ?_; (case hd => rfl); (case hg => rfl); (case hr => first | (go_simp; done) | (go_simp; rfl)); intro gb423 hg w5 hbox hb; have n0_ := As.mk (below_step (bl HB.out) hb); have n1_ := As.mk (hbox); have n2_ := As.mk ((by rw [hg]; exact (below_size (bl HB.out)) : w.heap.size ≤ gb423)); have n3_ := As.mk ((by rw [hg]; exact (below_size (bl HB.out)) : w.heap.size ≤ gb423)); clear HB; have HB := n0_; have BK423 := n1_; have GW423 := n2_; have GE423 := n3_; clear n0_ n1_ n2_ n3_; clear hb hbox hg; have z6 := box7 BK423.out) | (go_at_call 79; (with_reducible refine (s_Valid.calls k a0_0 a0_1 a0_2 a0_3 a0_4 a0_5 _ _ l0_6 true _ ?side1 ?side2 A2.out).mono ?_); (case side1 => exact Kd.C_below HR0_6.out (bl HB.out)); (case side2 => exact HC0_6.out); rintro e w7 ⟨rfl, hb⟩; have n0_ := As.mk (blk_below (g := gb423) (o := .cells #[.int .i64 a0_0, .int .i64 a0_1, .int .i64 a0_2, .int .i64 a0_3, .string a0_4, .string a0_5, .slice A0_6 l0_6.length c0_6] 33 (0, 0)) (bu BK423.out) hb); have n1_ := As.mk (below_step (bl HB.out) hb); clear BK423; clear HB; have BK423 := n0_; have HB := n1_; clear n0_ n1_; (try clear hb); have z8 := box7 BK423.out))
 go_ret
 exact ⟨by first | rfl | (simp [*] <;> rfl), bl HB.out⟩
end Go.Proofs.Yteadghhmoggjnaa.Q
end
section
namespace Go.Proofs.YteadghhmoggjnaaB
open Go.RowKit
open Go.Proofs.Yteadghhmoggjnaa.Q
open Go.Proofs.YteadghhmoggjnaaW.PrintWords Go.Proofs.YteadghhmoggjnaaW.PrintLast
set_option maxHeartbeats 800000
theorem ev_pos {α : Type} {c : Prop} [Decidable c] {a b : Nat → Option α} {r : α} (h : c) (k : Ev a r) : Ev (fun n => if c then a n else b n) r := Ev.congr (fun _ => if_pos h) k
theorem ev_neg {α : Type} {c : Prop} [Decidable c] {a b : Nat → Option α} {r : α} (h : ¬ c) (k : Ev b r) : Ev (fun n => if c then a n else b n) r := Ev.congr (fun _ => if_neg h) k
theorem ev_some {α β : Type} {a : α} {f : Nat → α → Option β} {r : β} (k : Ev (fun n => f n a) r) : Ev (fun n => (some a).bind (f n)) r := Ev.congr (fun _ => rfl) k
theorem ev_known {α β : Type} {g : Option α} {a : α} {f : Nat → α → Option β} {r : β} (h : g = some a) (k : Ev (fun n => f n a) r) : Ev (fun n => g.bind (f n)) r := by subst h; exact Ev.congr (fun _ => rfl) k
theorem ev_now {α : Type} {a r : α} (h : a = r) : Ev (fun _ => some a) r := h ▸ Ev.now a
theorem w64_id {n : Int} (h0 : -9223372036854775808 ≤ n) (h1 : n ≤ 9223372036854775807) : wrap64 n = n := by unfold wrap64; omega
theorem w64_suc {j : Nat} (h : j ≤ 9000000000000000000) : wrap64 ((j : Int) + 1) = ((j + 1 : Nat) : Int) := by
 rw [w64_id (by omega) (by omega)]
 omega
theorem samebox2_l (x : S33) (hx : x.f6.length ≤ 9000000000000000000) : ∀ (d j : Nat), j + d = x.f6.length → Ev (fun k => s_SameBox.l0 k (j : Int) x.f0 x.f1 x.f2 x.f3 x.f4 x.f5 x.f6 x.f0 x.f1 x.f2 x.f3 x.f4 x.f5 x.f6) true
 | 0, j, h => by
  refine Ev.step (fun k => by rw [s_SameBox.l0]) ?_
  exact ev_neg (by omega) (ev_now rfl)
 | d + 1, j, h => by
  refine Ev.step (fun k => by rw [s_SameBox.l0]) (ev_pos (by omega) (ev_pos (by omega) (ev_pos (by omega) (ev_pos rfl ?_))))
  rw [w64_suc (by omega)]
  exact samebox2_l x hx d (j + 1) (by omega)
theorem samebox2 (x : S33) (hx : x.f6.length ≤ 9000000000000000000) : Ev (fun k => s_SameBox.f k x.f0 x.f1 x.f2 x.f3 x.f4 x.f5 x.f6 x.f0 x.f1 x.f2 x.f3 x.f4 x.f5 x.f6) true := by
 have e : ((x.f6.length : Int) != (x.f6.length : Int)) = false := by simp
 refine ev_pos rfl (ev_pos rfl (ev_pos rfl (ev_pos rfl (ev_pos rfl (ev_pos rfl ?_)))))
 rw [e]
 refine Ev.step (fun k => by rw [s_SameBox.j0]) (ev_neg (by decide) ?_)
 exact samebox2_l x hx x.f6.length 0 (by omega)
theorem same2_l (l : List S33) (hl : l.length ≤ 9000000000000000000) (h6 : ∀ x ∈ l, x.f6.length ≤ 9000000000000000000) : ∀ (d j : Nat), j + d = l.length → Ev (fun k => s_Same.l0 k l l (j : Int)) true
 | 0, j, h => by
  refine Ev.step (fun k => by rw [s_Same.l0]) ?_
  exact ev_neg (by omega) (ev_now rfl)
 | d + 1, j, h => by
  obtain ⟨x, hx⟩ : ∃ x, l[j]? = some x := ⟨_, List.getElem?_eq_getElem (by omega)⟩
  refine Ev.step (fun k => by rw [s_Same.l0]) (ev_pos (by omega) (ev_pos (by omega) (ev_pos (by omega) ?_)))
  rw [rdT_at hx, w64_suc (by omega)]
  exact Ev.bind (samebox2 x (h6 x (List.mem_of_getElem? hx))) (ev_pos rfl (same2_l l hl h6 d (j + 1) (by omega)))
theorem same_ev (l : List S33) (hl : l.length ≤ 9000000000000000000) (h6 : ∀ x ∈ l, x.f6.length ≤ 9000000000000000000) : Ev (fun k => s_Same.f k l l) true := by
 refine ev_pos rfl ?_
 exact same2_l l hl h6 l.length 0 (by omega)
theorem blank_f (x : S33) : r_Blank.f x.f0 x.f1 x.f2 x.f3 x.f4 x.f5 x.f6 = some (blankB x) := by
 unfold r_Blank.f blankB
 by_cases h : x.f0 = 1
 ·rw [if_pos h, h]; rfl
 ·rw [if_neg h, beq_eq_false_iff_ne.2 h]; rfl
theorem ref_word_l (l : List S33) (hl : l.length ≤ 1000000) (at_ : Nat) (hat : at_ ≤ l.length) : ∀ (d n : Nat), n + d = (l.drop at_).findIdx blankB → Ev (fun k => r_word.l0 k l (at_ : Int) (n : Int)) (((l.drop at_).findIdx blankB : Nat) : Int)
 | 0, n, h => by
  have hn : n = (l.drop at_).findIdx blankB := by omega
  refine Ev.step (fun k => by rw [r_word.l0]) ?_
  have hle := List.findIdx_le_length (p := blankB) (xs := l.drop at_)
  have hdl : (l.drop at_).length = l.length - at_ := List.length_drop
  rw [show wrap64 ((at_ : Int) + (n : Int)) = ((at_ + n : Nat) : Int) by rw [w64_id (by omega) (by omega)]; omega]
  by_cases hlt : at_ + n < l.length
  ·refine ev_pos (by omega) (ev_pos (by omega) ?_)
   have hx : l[at_ + n]? = some l[at_ + n] := List.getElem?_eq_getElem hlt
   rw [rdT_at hx, blank_f]
   refine ev_some (ev_pos ?_ (ev_now (by rw [hn])))
   have h3 := List.findIdx_getElem (w := by omega) (p := blankB) (xs := l.drop at_)
   rw [List.getElem_drop] at h3
   simp only [← hn] at h3
   exact h3
  ·exact ev_neg (by omega) (ev_now (by rw [hn]))
 | d + 1, n, h => by
  refine Ev.step (fun k => by rw [r_word.l0]) ?_
  have hle := List.findIdx_le_length (p := blankB) (xs := l.drop at_)
  have hdl : (l.drop at_).length = l.length - at_ := List.length_drop
  rw [show wrap64 ((at_ : Int) + (n : Int)) = ((at_ + n : Nat) : Int) by rw [w64_id (by omega) (by omega)]; omega]
  have hlt : at_ + n < l.length := by omega
  refine ev_pos (by omega) (ev_pos (by omega) ?_)
  have hx : l[at_ + n]? = some l[at_ + n] := List.getElem?_eq_getElem hlt
  rw [rdT_at hx, blank_f]
  have h3 : blankB l[at_ + n] = false := by
   have h4 := List.not_of_lt_findIdx (p := blankB) (xs := l.drop at_) (i := n) (by omega)
   rw [List.getElem_drop] at h4
   simpa using h4
  refine ev_some (ev_neg (by rw [h3]; decide) ?_)
  rw [w64_succ (by omega)]
  exact ref_word_l l hl at_ hat d (n + 1) (by omega)
theorem ref_word (l : List S33) (hl : l.length ≤ 1000000) (at_ : Nat) (hat : at_ ≤ l.length) : Ev (fun k => r_word.f k l (at_ : Int)) (((l.drop at_).findIdx blankB : Nat) : Int) := ref_word_l l hl at_ hat ((l.drop at_).findIdx blankB) 0 (by omega)
theorem restL_cons {x : S33} {l : List S33} : restL (x :: l) = if blankB x = true then restL l else x :: l := by unfold restL; rw [List.dropWhile_cons]
theorem ref_front_l (l : List S33) (hl : l.length ≤ 1000000) : ∀ (d i : Nat), i + d = l.length → Ev (fun k => r_front.l0 k l (i : Int)) (restL (l.drop i))
 | 0, i, h => by
  refine Ev.step (fun k => by rw [r_front.l0]) (ev_neg (by omega) (ev_pos (by omega) (ev_pos (by omega) (ev_now ?_))))
  rw [List.drop_eq_nil_of_le (by omega), List.drop_eq_nil_of_le (by omega)]
  rfl
 | d + 1, i, h => by
  have hlt : i < l.length := by omega
  have hx : l[i]? = some l[i] := List.getElem?_eq_getElem hlt
  refine Ev.step (fun k => by rw [r_front.l0]) (ev_pos (by omega) (ev_pos (by omega) ?_))
  rw [rdT_at hx, blank_f]
  rw [List.drop_eq_getElem_cons hlt, restL_cons]
  refine ev_some ?_
  by_cases hb : blankB l[i] = true
  ·rw [if_pos hb]
   refine ev_pos hb ?_
   rw [w64_succ (by omega)]
   exact ref_front_l l hl d (i + 1) (by omega)
  ·rw [if_neg hb]
   refine ev_neg hb (ev_pos (by omega) (ev_now ?_))
   rw [Int.toNat_natCast, List.drop_eq_getElem_cons hlt]
theorem ref_front (l : List S33) (hl : l.length ≤ 1000000) : Ev (fun k => r_front.f k l) (restL l) := ref_front_l l hl l.length 0 (by omega)
theorem ref_own_l (l : List S33) (hl : l.length ≤ 1000000) (h6 : ∀ x ∈ l, x.f6.length ≤ 17592186044415) : ∀ (d i : Nat), i + d = l.length → Ev (fun k => r_own.l0 k l (l.take i) (i : Int)) l
 | 0, i, h => by
  refine Ev.step (fun k => by rw [r_own.l0]) (ev_neg (by omega) (ev_now ?_))
  rw [List.take_of_length_le (by omega)]
 | d + 1, i, h => by
  have hlt : i < l.length := by omega
  have hx : l[i]? = some l[i] := List.getElem?_eq_getElem hlt
  have h6x := h6 l[i] (List.getElem_mem hlt)
  have htl : (l.take i).length = i := by rw [List.length_take]; omega
  refine Ev.step (fun k => by rw [r_own.l0]) (ev_pos (by omega) (ev_pos (by omega) ?_))
  rw [rdT_at hx]
  refine ev_some (ev_pos (by simp only [List.length_nil]; omega) (ev_pos (by omega) ?_))
  have e : l.take i ++ [(⟨l[i].f0, l[i].f1, l[i].f2, l[i].f3, l[i].f4, l[i].f5, ([] : List Int) ++ l[i].f6⟩ : S33)] = l.take (i + 1) := by
   rw [List.nil_append, List.take_succ_eq_append_getElem hlt]
  rw [e, w64_succ (by omega)]
  exact ref_own_l l hl h6 d (i + 1) (by omega)
theorem ref_own (l : List S33) (hl : l.length ≤ 1000000) (h6 : ∀ x ∈ l, x.f6.length ≤ 17592186044415) : Ev (fun k => r_own.f k l) l := ref_own_l l hl h6 l.length 0 (by omega)
def befP (l : List S33) (i j : Nat) : Bool := !(noneB solidP ((l.take j).take i))
def aftP (l : List S33) (i j : Nat) : Bool := !(noneB solidP ((l.take j).drop (i + 1)))
theorem befP_step {l : List S33} {i j : Nat} {x : S33} (h : l[j]? = some x) : befP l i (j + 1) = (befP l i j || (solidP x && decide (j < i))) := by
 obtain ⟨hj, rfl⟩ := List.getElem?_eq_some_iff.1 h
 unfold befP
 rw [List.take_take, List.take_take]
 by_cases hi : j < i
 ·rw [Nat.min_eq_right (by omega), Nat.min_eq_right (by omega), List.take_succ_eq_append_getElem hj, none_snoc, decide_eq_true hi]
  cases noneB solidP (l.take j) <;> cases solidP l[j] <;> rfl
 ·rw [Nat.min_eq_left (by omega), Nat.min_eq_left (by omega), decide_eq_false hi]
  simp
theorem aftP_step {l : List S33} {i j : Nat} {x : S33} (h : l[j]? = some x) : aftP l i (j + 1) = (aftP l i j || (solidP x && decide (j > i))) := by
 obtain ⟨hj, rfl⟩ := List.getElem?_eq_some_iff.1 h
 unfold aftP
 have hl : (l.take j).length = j := by rw [List.length_take]; omega
 rw [List.take_succ_eq_append_getElem hj]
 by_cases hi : j > i
 ·rw [List.drop_append_of_le_length (by omega), none_snoc, decide_eq_true hi]
  cases noneB solidP ((l.take j).drop (i + 1)) <;> cases solidP l[j] <;> rfl
 ·rw [List.drop_eq_nil_of_le (by rw [List.length_append, hl]; simp; omega), List.drop_eq_nil_of_le (by omega), decide_eq_false hi]
  simp
theorem solidP_not {x : S33} : solidP x = true ↔ ¬ x.f0 = 5 := by unfold solidP; exact bne_iff_ne
theorem ref_places_l1 (l : List S33) (hl : l.length ≤ 1000000) (acc : List Int) (hacc : acc.length < 17592186044416) (i : Nat) (R : List Int)
  (hR : Ev (fun k => r_places.l0 k l (if (befP l i l.length && aftP l i l.length) = true then acc ++ [(i : Int)] else acc) (wrap64 ((i : Int) + 1))) R) :
  ∀ (d j : Nat), j + d = l.length → Ev (fun k => r_places.l1 k l acc (i : Int) (befP l i j) (aftP l i j) (j : Int)) R
 | 0, j, h => by
  obtain rfl : j = l.length := by omega
  refine Ev.step (fun k => by rw [r_places.l1]) (ev_neg (by omega) ?_)
  cases hb : befP l i l.length <;> cases ha : aftP l i l.length <;> rw [hb, ha] at hR
  ·exact ev_neg (by decide) hR
  ·exact ev_neg (by decide) hR
  ·exact ev_pos rfl (ev_neg (by decide) hR)
  ·exact ev_pos rfl (ev_pos rfl (ev_pos hacc hR))
 | d + 1, j, h => by
  have hj : j < l.length := by omega
  obtain ⟨x, hx⟩ : ∃ x, l[j]? = some x := ⟨_, List.getElem?_eq_getElem hj⟩
  have ih := ref_places_l1 l hl acc hacc i R hR d (j + 1) (by omega)
  rw [befP_step hx, aftP_step hx] at ih
  refine Ev.step (fun k => by rw [r_places.l1]) (ev_pos (by omega) (ev_pos (by omega) ?_))
  rw [rdT_at hx, w64_succ (by omega)]
  have e1 : decide ((j : Int) < (i : Int)) = decide (j < i) := by rw [decide_eq_decide]; omega
  have e2 : decide ((j : Int) > (i : Int)) = decide (j > i) := by rw [decide_eq_decide]; omega
  rw [e1, e2]
  by_cases hs : x.f0 = 5
  ·refine ev_pos hs ?_
   have : solidP x = false := by unfold solidP; rw [hs]; rfl
   rw [this] at ih
   simpa using ih
  ·refine ev_neg hs ?_
   rw [solidP_not.2 hs] at ih
   cases hb : befP l i j <;> cases ha : aftP l i j <;> rw [hb, ha] at ih
   ·exact ev_neg (by decide) (ev_neg (by decide) (by simpa using ih))
   ·exact ev_neg (by decide) (ev_pos rfl (by simpa using ih))
   ·exact ev_pos rfl (ev_neg (by decide) (by simpa using ih))
   ·exact ev_pos rfl (ev_pos rfl (by simpa using ih))
theorem ref_places_l0 (l : List S33) (hl : l.length ≤ 1000000) : ∀ (m i : Nat), i + m = l.length → Ev (fun k => r_places.l0 k l (placesTo l i) (i : Int)) (placesL l)
 | 0, i, h => by
  obtain rfl : i = l.length := by omega
  refine Ev.step (fun k => by rw [r_places.l0]) ?_
  exact ev_neg (by omega) (ev_now rfl)
 | m + 1, i, h => by
  have hi : i < l.length := by omega
  obtain ⟨x, hx⟩ : ∃ x, l[i]? = some x := ⟨_, List.getElem?_eq_getElem hi⟩
  have hacc : (placesTo l i).length < 17592186044416 := by have := placesTo_len l i; omega
  have ih := ref_places_l0 l hl m (i + 1) (by omega)
  refine Ev.step (fun k => by rw [r_places.l0]) (ev_pos (by omega) (ev_pos (by omega) ?_))
  rw [rdT_at hx]
  have hb := brk_at hx
  by_cases h5 : x.f0 = 5
  ·refine ev_pos h5 ?_
   have e0 : befP l i 0 = false := by unfold befP noneB; simp
   have e1 : aftP l i 0 = false := by unfold aftP noneB; simp
   have h1 := ref_places_l1 l hl (placesTo l i) hacc i (placesL l) ?_ l.length 0 (by omega)
   ·rw [e0, e1] at h1
    exact h1
   ·rw [w64_succ (by omega)]
    have e2 : (befP l i l.length && aftP l i l.length) = brk l i := by
     rw [hb, h5]
     unfold befP aftP
     rw [List.take_of_length_le (Nat.le_refl _)]
     rfl
    rw [e2]
    cases hk : brk l i
    ·rw [placesTo_no hk] at ih
     exact ih
    ·rw [placesTo_yes hk] at ih
     exact ih
  ·refine ev_neg h5 ?_
   have : brk l i = false := by rw [hb, beq_eq_false_iff_ne.2 h5]; rfl
   rw [placesTo_no this] at ih
   rw [w64_succ (by omega)]
   exact ih
theorem ref_places (l : List S33) (hl : l.length ≤ 1000000) : Ev (fun k => r_places.f k l) (placesL l) := ref_places_l0 l hl l.length 0 (by omega)
theorem ref_cut (put w : List S33) (at_ : Nat) (h : S33) (hp : put.length ≤ 1000000) (hw : w.length ≤ 1000000) (hat : at_ ≤ w.length) (hh : h.f0 = 0 ∨ h.f0 = 5) :
  r_cut.f put w (at_ : Int) h.f0 h.f1 h.f2 h.f3 h.f4 h.f5 h.f6 = some (hyph (put ++ w.take at_) h) := by
 have htl : (w.take at_).length = at_ := by rw [List.length_take]; omega
 unfold r_cut.f
 rw [Option.bind_some, if_pos (by simp only [List.length_nil]; omega), Option.bind_some, if_pos (by omega), if_pos (by omega), Option.bind_some, Int.toNat_natCast, List.nil_append, if_pos (by omega), Option.bind_some]
 unfold hyph
 rcases hh with h0 | h5
 ·rw [if_pos h0, if_pos (by rw [List.length_append]; omega), if_neg (by omega)]
 ·rw [if_neg (by omega), if_pos h5]
end Go.Proofs.YteadghhmoggjnaaB
end
section
namespace Go.Proofs.Yteadghhmoggjnaa.Q
open Go.RowKit Go.Proofs.YteadghhmoggjnaaW.PrintWords Go.Proofs.YteadghhmoggjnaaW.PrintLast Go.Proofs.YteadghhmoggjnaaW.PrintMore
attribute [local go_sem] max2_int max_two
set_option maxHeartbeats 8000000
set_option maxRecDepth 100000
def r_check.l0 : Nat → List (S33) → Int → Option (Int)
 | 0, _, _ => none
 | k + 1, x0, x3 => if x3 < (x0.length : Int) then (if 0 ≤ x3 then ((s_Valid.f k ((rd_T33 x0 x3).f0) ((rd_T33 x0 x3).f1) ((rd_T33 x0 x3).f2) ((rd_T33 x0 x3).f3) ((rd_T33 x0 x3).f4) ((rd_T33 x0 x3).f5) ((rd_T33 x0 x3).f6)).bind fun t422 => (if t422 = true then (r_check.l0 k x0 (wrap64 (x3 + 1))) else (some 1))) else (none)) else (if (x0.length : Int) > 5000 then (some 2) else (some 0))
def r_check.f (k : Nat) (l0 : List (S33)) : Option (Int) := r_check.l0 k l0 0
theorem r_check.calls (k : Nat) (A0 : Option Addr) (c0 : Nat) (l0 : List (S33)) (r : Int) (w : World) (hr0 : Kd.C k33 w A0 l0.length l0) (hc0 : l0.length ≤ c0) (h : r_check.f k l0 = some r) :
  Calls Try.prog 67 #[.slice A0 l0.length c0] w fun e w' => e = .returned (.int .i64 r) ∧ Below w.heap.size w w' := by
 have hu33 := Try.underlying33
 have HR0 := As.mk hr0
 have HC0 := As.mk hc0
 clear hr0 hc0
 have HB := As.mk (Below.refl w.heap.size w)
 have H : (r_check.l0 k l0 0) = some r := h
 clear h
 have H' := As.mk H
 clear H
 go_enter Try.func67, Try.ntmps67
 go_wp2
 go_loopg [3] k (fun kq v3 w' => ∃ (x3_1 : Int), v3 = .int .i64 x3_1 ∧ As (r_check.l0 kq l0 x3_1 = some r) ∧ As (kq ≤ k) ∧ As (Below w.heap.size w w'))
 case atStart => exact ⟨(0), (by first | rfl | simp [*]), H', ⟨Nat.le_refl _⟩, ⟨bl HB.out⟩⟩
 case round =>
  clear H'
  obtain ⟨x3_1, rfl, HA, HK1, HB⟩ := hrel
  cases gk with
  | zero => exact absurd HA.out (by simp [r_check.l0])
  | succ k1 =>
   have H := HA.out
   clear HA
   simp only [r_check.l0] at H
   by_cases c2 : x3_1 < (l0.length : Int)
   rotate_left
   ·rw [if_neg c2] at H
    have c2b0 := decide_eq_false c2
    clear c2
    by_cases c8 : (l0.length : Int) > 5000
    ·rw [if_pos c8] at H
     have c8b0 : decide (5000 < (l0.length : Int)) = true := decide_eq_true c8
     have c8b1 : decide (5000 < l0.length) = true := decide_eq_true (by omega)
     clear c8
     obtain rfl := Option.some.inj H
     go_wp2
     go_ret
     exact ⟨by first | rfl | (simp [*] <;> rfl), bl HB.out⟩
    rw [if_neg c8] at H
    have c8b0 : decide (5000 < (l0.length : Int)) = false := decide_eq_false c8
    have c8b1 : decide (5000 < l0.length) = false := decide_eq_false (by omega)
    clear c8
    obtain rfl := Option.some.inj H
    go_wp2
    go_ret
    exact ⟨by first | rfl | (simp [*] <;> rfl), bl HB.out⟩
   rw [if_pos c2] at H
   have c2b0 := decide_eq_true c2
   clear c2
   by_cases c3 : 0 ≤ x3_1
   rotate_left
   ·rw [if_neg c3] at H
    exact absurd H (by simp)
   rw [if_pos c3] at H
   have c3b0 := decide_eq_true c3
   clear c3
   replace H := Option.bind_eq_some_iff.mp H
   obtain ⟨t422, A40, H⟩ := H
   try dsimp only at H
   have A4 := As.mk A40
   clear A40
   by_cases c5 : t422 = true
   rotate_left
   ·replace c5 := Bool.eq_false_iff.mpr c5
    subst c5
    have H1 : (some 1) = some r := by rw [if_neg (show ¬ (false = true) by decide)] at H; exact H
    clear H
    have H := H1
    clear H1
    obtain rfl := Option.some.inj H
    have p421 : 0 ≤ (x3_1 : Int) := of_decide_eq_true (by with_reducible assumption)
    have q421 : x3_1 < (l0.length : Int) := of_decide_eq_true (by with_reducible assumption)
    obtain ⟨ad421, A421_6, c421_6, e421, hx421_0, hx421_1, hx421_2, hx421_3, hx421_4, hx421_5, hx421_6, hl421_6, hi421_6⟩ := at_T33 HR0.out x3_1 p421 q421
    cases e421
    replace hx421_0 := ct HB.out hx421_0
    replace hx421_1 := ct HB.out hx421_1
    replace hx421_2 := ct HB.out hx421_2
    replace hx421_3 := ct HB.out hx421_3
    replace hx421_4 := ct HB.out hx421_4
    replace hx421_5 := ct HB.out hx421_5
    replace hx421_6 := ct HB.out hx421_6
    have HR421_6 := As.mk hi421_6
    have HC421_6 := As.mk hl421_6
    clear hi421_6 hl421_6
    replace p421 := eq_true p421
    replace q421 := eq_true q421
    go_wp2_with (first | (go_at_call 79; (with_reducible refine (s_Valid.calls k1 ((rd_T33 l0 x3_1).f0) ((rd_T33 l0 x3_1).f1) ((rd_T33 l0 x3_1).f2) ((rd_T33 l0 x3_1).f3) ((rd_T33 l0 x3_1).f4) ((rd_T33 l0 x3_1).f5) _ _ ((rd_T33 l0 x3_1).f6) false _ ?side1 ?side2 A4.out).mono ?_); (case side1 => exact Kd.C_below HR421_6.out (bl HB.out)); (case side2 => exact HC421_6.out); rintro e w7 ⟨rfl, hb⟩; have n0_ := As.mk (below_step (bl HB.out) hb); clear HB; have HB := n0_; clear n0_; (try clear hb)))
    go_ret
    exact ⟨by first | rfl | (simp [*] <;> rfl), bl HB.out⟩
   subst c5
   have H1 : (r_check.l0 k1 l0 (wrap64 (x3_1 + 1))) = some r := by rw [if_pos rfl] at H; exact H
   clear H
   have H := H1
   clear H1
   have H' := As.mk H
   clear H
   have p421 : 0 ≤ (x3_1 : Int) := of_decide_eq_true (by with_reducible assumption)
   have q421 : x3_1 < (l0.length : Int) := of_decide_eq_true (by with_reducible assumption)
   obtain ⟨ad421, A421_6, c421_6, e421, hx421_0, hx421_1, hx421_2, hx421_3, hx421_4, hx421_5, hx421_6, hl421_6, hi421_6⟩ := at_T33 HR0.out x3_1 p421 q421
   cases e421
   replace hx421_0 := ct HB.out hx421_0
   replace hx421_1 := ct HB.out hx421_1
   replace hx421_2 := ct HB.out hx421_2
   replace hx421_3 := ct HB.out hx421_3
   replace hx421_4 := ct HB.out hx421_4
   replace hx421_5 := ct HB.out hx421_5
   replace hx421_6 := ct HB.out hx421_6
   have HR421_6 := As.mk hi421_6
   have HC421_6 := As.mk hl421_6
   clear hi421_6 hl421_6
   replace p421 := eq_true p421
   replace q421 := eq_true q421
   go_wp2_with (first | (go_at_call 79; (with_reducible refine (s_Valid.calls k1 ((rd_T33 l0 x3_1).f0) ((rd_T33 l0 x3_1).f1) ((rd_T33 l0 x3_1).f2) ((rd_T33 l0 x3_1).f3) ((rd_T33 l0 x3_1).f4) ((rd_T33 l0 x3_1).f5) _ _ ((rd_T33 l0 x3_1).f6) true _ ?side1 ?side2 A4.out).mono ?_); (case side1 => exact Kd.C_below HR421_6.out (bl HB.out)); (case side2 => exact HC421_6.out); rintro e w6 ⟨rfl, hb⟩; have n0_ := As.mk (below_step (bl HB.out) hb); clear HB; have HB := n0_; clear n0_; (try clear hb)))
   go_roundg k1
   case measure => have := HK1.out; omega
   case rel => exact ⟨(wrap64 (x3_1 + 1)), (by first | rfl | simp [*]), H', ⟨by have := HK1.out; omega⟩, ⟨bl HB.out⟩⟩
end Go.Proofs.Yteadghhmoggjnaa.Q
end
