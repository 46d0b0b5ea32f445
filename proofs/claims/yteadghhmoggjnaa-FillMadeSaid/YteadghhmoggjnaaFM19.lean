import Derived.Test.YteadghhmoggjnaaFM15
import Derived.Test.YteadghhmoggjnaaFM16
import Derived.Test.YteadghhmoggjnaaFM18
set_option linter.unusedVariables false
set_option linter.unusedSimpArgs false
section
namespace Go.Proofs.YteadghhmoggjnaaB
open Go.RowKit
open Yteadghhmoggjnaa.Q
open YteadghhmoggjnaaW.PrintWords YteadghhmoggjnaaW.PrintLast
set_option maxHeartbeats 800000
theorem ev_pos {α : Type} {c : Prop} [Decidable c] {a b : Nat → Option α} {r : α} (h : c) (k : Ev a r) : Ev (fun n => if c then a n else b n) r := Ev.congr (fun _ => if_pos h) k
theorem ev_neg {α : Type} {c : Prop} [Decidable c] {a b : Nat → Option α} {r : α} (h : ¬ c) (k : Ev b r) : Ev (fun n => if c then a n else b n) r := Ev.congr (fun _ => if_neg h) k
theorem ev_some {α β : Type} {a : α} {f : Nat → α → Option β} {r : β} (k : Ev (fun n => f n a) r) : Ev (fun n => (some a).bind (f n)) r := Ev.congr (fun _ => rfl) k
theorem ev_known {α β : Type} {g : Option α} {a : α} {f : Nat → α → Option β} {r : β} (h : g = some a) (k : Ev (fun n => f n a) r) : Ev (fun n => g.bind (f n)) r := by subst h; exact Ev.congr (fun _ => rfl) k
theorem ev_now {α : Type} {a r : α} (h : a = r) : Ev (fun _ => some a) r := h ▸ Ev.now a
theorem w64_id {n : Int} (h0 : -9223372036854775808 ≤ n) (h1 : n ≤ 9223372036854775807) : wrap64 n = n := by unfold wrap64; omega
theorem w64_suc {j : Nat} (h : j ≤ 9000000000000000000) : wrap64 ((j : Int) + 1) = ((j + 1 : Nat) : Int) := by
 rw [w64_id (by omega) (by omega)]
 omega
theorem samebox2_l (x : S33) (hx : x.f6.length ≤ 9000000000000000000) : ∀ (d j : Nat), j + d = x.f6.length → Ev (fun k => s_SameBox.l0 k (j : Int) x.f0 x.f1 x.f2 x.f3 x.f4 x.f5 x.f6 x.f0 x.f1 x.f2 x.f3 x.f4 x.f5 x.f6) true
 | 0, j, h => by
  refine Ev.step (fun k => by rw [s_SameBox.l0]) ?_
  exact ev_neg (by omega) (ev_now rfl)
 | d + 1, j, h => by
  refine Ev.step (fun k => by rw [s_SameBox.l0]) (ev_pos (by omega) (ev_pos (by omega) (ev_pos (by omega) (ev_pos rfl ?_))))
  rw [w64_suc (by omega)]
  exact samebox2_l x hx d (j + 1) (by omega)
theorem samebox2 (x : S33) (hx : x.f6.length ≤ 9000000000000000000) : Ev (fun k => s_SameBox.f k x.f0 x.f1 x.f2 x.f3 x.f4 x.f5 x.f6 x.f0 x.f1 x.f2 x.f3 x.f4 x.f5 x.f6) true := by
 have e : ((x.f6.length : Int) != (x.f6.length : Int)) = false := by simp
 refine ev_pos rfl (ev_pos rfl (ev_pos rfl (ev_pos rfl (ev_pos rfl (ev_pos rfl ?_)))))
 rw [e]
 refine Ev.step (fun k => by rw [s_SameBox.j0]) (ev_neg (by decide) ?_)
 exact samebox2_l x hx x.f6.length 0 (by omega)
theorem same2_l (l : List S33) (hl : l.length ≤ 9000000000000000000) (h6 : ∀ x ∈ l, x.f6.length ≤ 9000000000000000000) : ∀ (d j : Nat), j + d = l.length → Ev (fun k => s_Same.l0 k l l (j : Int)) true
 | 0, j, h => by
  refine Ev.step (fun k => by rw [s_Same.l0]) ?_
  exact ev_neg (by omega) (ev_now rfl)
 | d + 1, j, h => by
  obtain ⟨x, hx⟩ : ∃ x, l[j]? = some x := ⟨_, List.getElem?_eq_getElem (by omega)⟩
  refine Ev.step (fun k => by rw [s_Same.l0]) (ev_pos (by omega) (ev_pos (by omega) (ev_pos (by omega) ?_)))
  rw [rdT_at hx, w64_suc (by omega)]
  exact Ev.bind (samebox2 x (h6 x (List.mem_of_getElem? hx))) (ev_pos rfl (same2_l l hl h6 d (j + 1) (by omega)))
theorem same_ev (l : List S33) (hl : l.length ≤ 9000000000000000000) (h6 : ∀ x ∈ l, x.f6.length ≤ 9000000000000000000) : Ev (fun k => s_Same.f k l l) true := by
 refine ev_pos rfl ?_
 exact same2_l l hl h6 l.length 0 (by omega)
theorem blank_f (x : S33) : r_Blank.f x.f0 x.f1 x.f2 x.f3 x.f4 x.f5 x.f6 = some (blankB x) := by
 unfold r_Blank.f blankB
 by_cases h : x.f0 = 1
 ·rw [if_pos h, h]; rfl
 ·rw [if_neg h, beq_eq_false_iff_ne.2 h]; rfl
theorem ref_word_l (l : List S33) (hl : l.length ≤ 1000000) (at_ : Nat) (hat : at_ ≤ l.length) : ∀ (d n : Nat), n + d = (l.drop at_).findIdx blankB → Ev (fun k => r_word.l0 k l (at_ : Int) (n : Int)) (((l.drop at_).findIdx blankB : Nat) : Int)
 | 0, n, h => by
  have hn : n = (l.drop at_).findIdx blankB := by omega
  refine Ev.step (fun k => by rw [r_word.l0]) ?_
  have hle := List.findIdx_le_length (p := blankB) (xs := l.drop at_)
  have hdl : (l.drop at_).length = l.length - at_ := List.length_drop
  rw [show wrap64 ((at_ : Int) + (n : Int)) = ((at_ + n : Nat) : Int) by rw [w64_id (by omega) (by omega)]; omega]
  by_cases hlt : at_ + n < l.length
  ·refine ev_pos (by omega) (ev_pos (by omega) ?_)
   have hx : l[at_ + n]? = some l[at_ + n] := List.getElem?_eq_getElem hlt
   rw [rdT_at hx, blank_f]
   refine ev_some (ev_pos ?_ (ev_now (by rw [hn])))
   have h3 := List.findIdx_getElem (w := by omega) (p := blankB) (xs := l.drop at_)
   rw [List.getElem_drop] at h3
   simp only [← hn] at h3
   exact h3
  ·exact ev_neg (by omega) (ev_now (by rw [hn]))
 | d + 1, n, h => by
  refine Ev.step (fun k => by rw [r_word.l0]) ?_
  have hle := List.findIdx_le_length (p := blankB) (xs := l.drop at_)
  have hdl : (l.drop at_).length = l.length - at_ := List.length_drop
  rw [show wrap64 ((at_ : Int) + (n : Int)) = ((at_ + n : Nat) : Int) by rw [w64_id (by omega) (by omega)]; omega]
  have hlt : at_ + n < l.length := by omega
  refine ev_pos (by omega) (ev_pos (by omega) ?_)
  have hx : l[at_ + n]? = some l[at_ + n] := List.getElem?_eq_getElem hlt
  rw [rdT_at hx, blank_f]
  have h3 : blankB l[at_ + n] = false := by
   have h4 := List.not_of_lt_findIdx (p := blankB) (xs := l.drop at_) (i := n) (by omega)
   rw [List.getElem_drop] at h4
   simpa using h4
  refine ev_some (ev_neg (by rw [h3]; decide) ?_)
  rw [w64_succ (by omega)]
  exact ref_word_l l hl at_ hat d (n + 1) (by omega)
theorem ref_word (l : List S33) (hl : l.length ≤ 1000000) (at_ : Nat) (hat : at_ ≤ l.length) : Ev (fun k => r_word.f k l (at_ : Int)) (((l.drop at_).findIdx blankB : Nat) : Int) := ref_word_l l hl at_ hat ((l.drop at_).findIdx blankB) 0 (by omega)
theorem restL_cons {x : S33} {l : List S33} : restL (x :: l) = if blankB x = true then restL l else x :: l := by unfold restL; rw [List.dropWhile_cons]
theorem ref_front_l (l : List S33) (hl : l.length ≤ 1000000) : ∀ (d i : Nat), i + d = l.length → Ev (fun k => r_front.l0 k l (i : Int)) (restL (l.drop i))
 | 0, i, h => by
  refine Ev.step (fun k => by rw [r_front.l0]) (ev_neg (by omega) (ev_pos (by omega) (ev_pos (by omega) (ev_now ?_))))
  rw [List.drop_eq_nil_of_le (by omega), List.drop_eq_nil_of_le (by omega)]
  rfl
 | d + 1, i, h => by
  have hlt : i < l.length := by omega
  have hx : l[i]? = some l[i] := List.getElem?_eq_getElem hlt
  refine Ev.step (fun k => by rw [r_front.l0]) (ev_pos (by omega) (ev_pos (by omega) ?_))
  rw [rdT_at hx, blank_f]
  rw [List.drop_eq_getElem_cons hlt, restL_cons]
  refine ev_some ?_
  by_cases hb : blankB l[i] = true
  ·rw [if_pos hb]
   refine ev_pos hb ?_
   rw [w64_succ (by omega)]
   exact ref_front_l l hl d (i + 1) (by omega)
  ·rw [if_neg hb]
   refine ev_neg hb (ev_pos (by omega) (ev_now ?_))
   rw [Int.toNat_natCast, List.drop_eq_getElem_cons hlt]
theorem ref_front (l : List S33) (hl : l.length ≤ 1000000) : Ev (fun k => r_front.f k l) (restL l) := ref_front_l l hl l.length 0 (by omega)
theorem ref_own_l (l : List S33) (hl : l.length ≤ 1000000) (h6 : ∀ x ∈ l, x.f6.length ≤ 17592186044415) : ∀ (d i : Nat), i + d = l.length → Ev (fun k => r_own.l0 k l (l.take i) (i : Int)) l
 | 0, i, h => by
  refine Ev.step (fun k => by rw [r_own.l0]) (ev_neg (by omega) (ev_now ?_))
  rw [List.take_of_length_le (by omega)]
 | d + 1, i, h => by
  have hlt : i < l.length := by omega
  have hx : l[i]? = some l[i] := List.getElem?_eq_getElem hlt
  have h6x := h6 l[i] (List.getElem_mem hlt)
  have htl : (l.take i).length = i := by rw [List.length_take]; omega
  refine Ev.step (fun k => by rw [r_own.l0]) (ev_pos (by omega) (ev_pos (by omega) ?_))
  rw [rdT_at hx]
  refine ev_some (ev_pos (by simp only [List.length_nil]; omega) (ev_pos (by omega) ?_))
  have e : l.take i ++ [(⟨l[i].f0, l[i].f1, l[i].f2, l[i].f3, l[i].f4, l[i].f5, ([] : List Int) ++ l[i].f6⟩ : S33)] = l.take (i + 1) := by
   rw [List.nil_append, List.take_succ_eq_append_getElem hlt]
  rw [e, w64_succ (by omega)]
  exact ref_own_l l hl h6 d (i + 1) (by omega)
theorem ref_own (l : List S33) (hl : l.length ≤ 1000000) (h6 : ∀ x ∈ l, x.f6.length ≤ 17592186044415) : Ev (fun k => r_own.f k l) l := ref_own_l l hl h6 l.length 0 (by omega)
def befP (l : List S33) (i j : Nat) : Bool := !(noneB solidP ((l.take j).take i))
def aftP (l : List S33) (i j : Nat) : Bool := !(noneB solidP ((l.take j).drop (i + 1)))
theorem befP_step {l : List S33} {i j : Nat} {x : S33} (h : l[j]? = some x) : befP l i (j + 1) = (befP l i j || (solidP x && decide (j < i))) := by
 obtain ⟨hj, rfl⟩ := List.getElem?_eq_some_iff.1 h
 unfold befP
 rw [List.take_take, List.take_take]
 by_cases hi : j < i
 ·rw [Nat.min_eq_right (by omega), Nat.min_eq_right (by omega), List.take_succ_eq_append_getElem hj, none_snoc, decide_eq_true hi]
  cases noneB solidP (l.take j) <;> cases solidP l[j] <;> rfl
 ·rw [Nat.min_eq_left (by omega), Nat.min_eq_left (by omega), decide_eq_false hi]
  simp
theorem aftP_step {l : List S33} {i j : Nat} {x : S33} (h : l[j]? = some x) : aftP l i (j + 1) = (aftP l i j || (solidP x && decide (j > i))) := by
 obtain ⟨hj, rfl⟩ := List.getElem?_eq_some_iff.1 h
 unfold aftP
 have hl : (l.take j).length = j := by rw [List.length_take]; omega
 rw [List.take_succ_eq_append_getElem hj]
 by_cases hi : j > i
 ·rw [List.drop_append_of_le_length (by omega), none_snoc, decide_eq_true hi]
  cases noneB solidP ((l.take j).drop (i + 1)) <;> cases solidP l[j] <;> rfl
 ·rw [List.drop_eq_nil_of_le (by rw [List.length_append, hl]; simp; omega), List.drop_eq_nil_of_le (by omega), decide_eq_false hi]
  simp
theorem solidP_not {x : S33} : solidP x = true ↔ ¬ x.f0 = 5 := by unfold solidP; exact bne_iff_ne
theorem ref_places_l1 (l : List S33) (hl : l.length ≤ 1000000) (acc : List Int) (hacc : acc.length < 17592186044416) (i : Nat) (R : List Int)
  (hR : Ev (fun k => r_places.l0 k l (if (befP l i l.length && aftP l i l.length) = true then acc ++ [(i : Int)] else acc) (wrap64 ((i : Int) + 1))) R) :
  ∀ (d j : Nat), j + d = l.length → Ev (fun k => r_places.l1 k l acc (i : Int) (befP l i j) (aftP l i j) (j : Int)) R
 | 0, j, h => by
  obtain rfl : j = l.length := by omega
  refine Ev.step (fun k => by rw [r_places.l1]) (ev_neg (by omega) ?_)
  cases hb : befP l i l.length <;> cases ha : aftP l i l.length <;> rw [hb, ha] at hR
  ·exact ev_neg (by decide) hR
  ·exact ev_neg (by decide) hR
  ·exact ev_pos rfl (ev_neg (by decide) hR)
  ·exact ev_pos rfl (ev_pos rfl (ev_pos hacc hR))
 | d + 1, j, h => by
  have hj : j < l.length := by omega
  obtain ⟨x, hx⟩ : ∃ x, l[j]? = some x := ⟨_, List.getElem?_eq_getElem hj⟩
  have ih := ref_places_l1 l hl acc hacc i R hR d (j + 1) (by omega)
  rw [befP_step hx, aftP_step hx] at ih
  refine Ev.step (fun k => by rw [r_places.l1]) (ev_pos (by omega) (ev_pos (by omega) ?_))
  rw [rdT_at hx, w64_succ (by omega)]
  have e1 : decide ((j : Int) < (i : Int)) = decide (j < i) := by rw [decide_eq_decide]; omega
  have e2 : decide ((j : Int) > (i : Int)) = decide (j > i) := by rw [decide_eq_decide]; omega
  rw [e1, e2]
  by_cases hs : x.f0 = 5
  ·refine ev_pos hs ?_
   have : solidP x = false := by unfold solidP; rw [hs]; rfl
   rw [this] at ih
   simpa using ih
  ·refine ev_neg hs ?_
   rw [solidP_not.2 hs] at ih
   cases hb : befP l i j <;> cases ha : aftP l i j <;> rw [hb, ha] at ih
   ·exact ev_neg (by decide) (ev_neg (by decide) (by simpa using ih))
   ·exact ev_neg (by decide) (ev_pos rfl (by simpa using ih))
   ·exact ev_pos rfl (ev_neg (by decide) (by simpa using ih))
   ·exact ev_pos rfl (ev_pos rfl (by simpa using ih))
theorem ref_places_l0 (l : List S33) (hl : l.length ≤ 1000000) : ∀ (m i : Nat), i + m = l.length → Ev (fun k => r_places.l0 k l (placesTo l i) (i : Int)) (placesL l)
 | 0, i, h => by
  obtain rfl : i = l.length := by omega
  refine Ev.step (fun k => by rw [r_places.l0]) ?_
  exact ev_neg (by omega) (ev_now rfl)
 | m + 1, i, h => by
  have hi : i < l.length := by omega
  obtain ⟨x, hx⟩ : ∃ x, l[i]? = some x := ⟨_, List.getElem?_eq_getElem hi⟩
  have hacc : (placesTo l i).length < 17592186044416 := by have := placesTo_len l i; omega
  have ih := ref_places_l0 l hl m (i + 1) (by omega)
  refine Ev.step (fun k => by rw [r_places.l0]) (ev_pos (by omega) (ev_pos (by omega) ?_))
  rw [rdT_at hx]
  have hb := brk_at hx
  by_cases h5 : x.f0 = 5
  ·refine ev_pos h5 ?_
   have e0 : befP l i 0 = false := by unfold befP noneB; simp
   have e1 : aftP l i 0 = false := by unfold aftP noneB; simp
   have h1 := ref_places_l1 l hl (placesTo l i) hacc i (placesL l) ?_ l.length 0 (by omega)
   ·rw [e0, e1] at h1
    exact h1
   ·rw [w64_succ (by omega)]
    have e2 : (befP l i l.length && aftP l i l.length) = brk l i := by
     rw [hb, h5]
     unfold befP aftP
     rw [List.take_of_length_le (Nat.le_refl _)]
     rfl
    rw [e2]
    cases hk : brk l i
    ·rw [placesTo_no hk] at ih
     exact ih
    ·rw [placesTo_yes hk] at ih
     exact ih
  ·refine ev_neg h5 ?_
   have : brk l i = false := by rw [hb, beq_eq_false_iff_ne.2 h5]; rfl
   rw [placesTo_no this] at ih
   rw [w64_succ (by omega)]
   exact ih
theorem ref_places (l : List S33) (hl : l.length ≤ 1000000) : Ev (fun k => r_places.f k l) (placesL l) := ref_places_l0 l hl l.length 0 (by omega)
theorem ref_cut (put w : List S33) (at_ : Nat) (h : S33) (hp : put.length ≤ 1000000) (hw : w.length ≤ 1000000) (hat : at_ ≤ w.length) (hh : h.f0 = 0 ∨ h.f0 = 5) :
  r_cut.f put w (at_ : Int) h.f0 h.f1 h.f2 h.f3 h.f4 h.f5 h.f6 = some (hyph (put ++ w.take at_) h) := by
 have htl : (w.take at_).length = at_ := by rw [List.length_take]; omega
 unfold r_cut.f
 rw [Option.bind_some, if_pos (by simp only [List.length_nil]; omega), Option.bind_some, if_pos (by omega), if_pos (by omega), Option.bind_some, Int.toNat_natCast, List.nil_append, if_pos (by omega), Option.bind_some]
 unfold hyph
 rcases hh with h0 | h5
 ·rw [if_pos h0, if_pos (by rw [List.length_append]; omega), if_neg (by omega)]
 ·rw [if_neg (by omega), if_pos h5]
end Go.Proofs.YteadghhmoggjnaaB
end
section
namespace Go.Proofs.Yteadghhmoggjnaa.Q
open Go.RowKit YteadghhmoggjnaaW.PrintWords YteadghhmoggjnaaW.PrintLast YteadghhmoggjnaaW.PrintMore
attribute [local go_sem] max2_int max_two
set_option maxHeartbeats 8000000
set_option maxRecDepth 100000
def r_check.l0 : Nat → List (S33) → Int → Option (Int)
 | 0, _, _ => none
 | k + 1, x0, x3 => if x3 < (x0.length : Int) then (if 0 ≤ x3 then ((s_Valid.f k ((rT x0 x3).f0) ((rT x0 x3).f1) ((rT x0 x3).f2) ((rT x0 x3).f3) ((rT x0 x3).f4) ((rT x0 x3).f5) ((rT x0 x3).f6)).bind fun t422 => (if t422 = true then (r_check.l0 k x0 (wrap64 (x3 + 1))) else (some 1))) else (none)) else (if (x0.length : Int) > 5000 then (some 2) else (some 0))
def r_check.f (k : Nat) (l0 : List (S33)) : Option (Int) := r_check.l0 k l0 0
theorem r_check.calls (k : Nat) (A0 : Option Addr) (c0 : Nat) (l0 : List (S33)) (r : Int) (w : World) (hr0 : Kd.C k33 w A0 l0.length l0) (hc0 : l0.length ≤ c0) (h : r_check.f k l0 = some r) :
  Calls Try.prog 67 #[.slice A0 l0.length c0] w fun e w' => e = .returned (.int .i64 r) ∧ Below w.heap.size w w' := by
 have hu33 := Try.underlying33
 have HR0 := o_ hr0
 have HC0 := o_ hc0
 clear hr0 hc0
 have HB := o_ (Below.refl w.heap.size w)
 have H : (r_check.l0 k l0 0) = some r := h
 clear h
 have H' := o_ H
 clear H
 go_enter Try.func67, Try.ntmps67
 go_wp2
 go_loopg [3] k (fun kq v3 w' => ∃ (x3_1 : Int), v3 = .int .i64 x3_1 ∧ As (r_check.l0 kq l0 x3_1 = some r) ∧ As (kq ≤ k) ∧ As (Below w.heap.size w w'))
 case atStart => exact ⟨(0), (by first | rfl | simp [*]), H', ⟨Nat.le_refl _⟩, ⟨bl HB⟩⟩
 case round =>
  clear H'
  obtain ⟨x3_1, rfl, HA, HK1, HB⟩ := hrel
  cases gk with
  | zero => exact absurd HA.out (by simp [r_check.l0])
  | succ k1 =>
   have H := HA.out
   clear HA
   simp only [r_check.l0] at H
   by_cases c2 : x3_1 < (l0.length : Int)
   rotate_left
   ·rw [if_neg c2] at H
    have c2b0 := decide_eq_false c2
    clear c2
    by_cases c8 : (l0.length : Int) > 5000
    ·rw [if_pos c8] at H
     have c8b0 : decide (5000 < (l0.length : Int)) = true := decide_eq_true c8
     have c8b1 : decide (5000 < l0.length) = true := decide_eq_true (by omega)
     clear c8
     obtain rfl := Option.some.inj H
     go_wp2
     go_ret
     exact ⟨by first | rfl | (simp [*] <;> rfl), bl HB⟩
    rw [if_neg c8] at H
    have c8b0 : decide (5000 < (l0.length : Int)) = false := decide_eq_false c8
    have c8b1 : decide (5000 < l0.length) = false := decide_eq_false (by omega)
    clear c8
    obtain rfl := Option.some.inj H
    go_wp2
    go_ret
    exact ⟨by first | rfl | (simp [*] <;> rfl), bl HB⟩
   rw [if_pos c2] at H
   have c2b0 := decide_eq_true c2
   clear c2
   by_cases c3 : 0 ≤ x3_1
   rotate_left
   ·rw [if_neg c3] at H
    exact absurd H (by simp)
   rw [if_pos c3] at H
   have c3b0 := decide_eq_true c3
   clear c3
   obtain ⟨t422, A40, H⟩ := qb H
   try dsimp only at H
   have A4 := o_ A40
   clear A40
   by_cases c5 : t422 = true
   rotate_left
   ·replace c5 := Bool.eq_false_iff.mpr c5
    subst c5
    have H1 : (some 1) = some r := by rw [if_neg (show ¬ (false = true) by decide)] at H; exact H
    clear H
    have H := H1
    clear H1
    obtain rfl := Option.some.inj H
    have p421 : 0 ≤ (x3_1 : Int) := oa
    have q421 : x3_1 < (l0.length : Int) := oa
    obtain ⟨ad421, A421_6, c421_6, e421, hx421_0, hx421_1, hx421_2, hx421_3, hx421_4, hx421_5, hx421_6, hl421_6, hi421_6⟩ := aT HR0.out x3_1 p421 q421
    cases e421
    obtain ⟨hx421_0, hx421_1, hx421_2, hx421_3, hx421_4, hx421_5, hx421_6⟩ := ct7 HB hx421_0 hx421_1 hx421_2 hx421_3 hx421_4 hx421_5 hx421_6
    have HR421_6 := o_ hi421_6
    have HC421_6 := o_ hl421_6
    clear hi421_6 hl421_6
    replace p421 := eq_true p421
    replace q421 := eq_true q421
    go_wp2_with (first | (go_at_call 79; (with_reducible refine (s_Valid.calls k1 ((rT l0 x3_1).f0) ((rT l0 x3_1).f1) ((rT l0 x3_1).f2) ((rT l0 x3_1).f3) ((rT l0 x3_1).f4) ((rT l0 x3_1).f5) _ _ ((rT l0 x3_1).f6) false _ ?side1 ?side2 A4.out).mono ?_); (case side1 => exact Kd.C_below HR421_6.out (bl HB)); (case side2 => exact HC421_6.out); rintro e w7 ⟨rfl, hb⟩; have n0_ := o_ (below_step (bl HB) hb); clear HB; have HB := n0_; clear n0_; (try clear hb)))
    go_ret
    exact ⟨by first | rfl | (simp [*] <;> rfl), bl HB⟩
   subst c5
   have H1 : (r_check.l0 k1 l0 (wrap64 (x3_1 + 1))) = some r := by rw [if_pos rfl] at H; exact H
   clear H
   have H := H1
   clear H1
   have H' := o_ H
   clear H
   have p421 : 0 ≤ (x3_1 : Int) := oa
   have q421 : x3_1 < (l0.length : Int) := oa
   obtain ⟨ad421, A421_6, c421_6, e421, hx421_0, hx421_1, hx421_2, hx421_3, hx421_4, hx421_5, hx421_6, hl421_6, hi421_6⟩ := aT HR0.out x3_1 p421 q421
   cases e421
   obtain ⟨hx421_0, hx421_1, hx421_2, hx421_3, hx421_4, hx421_5, hx421_6⟩ := ct7 HB hx421_0 hx421_1 hx421_2 hx421_3 hx421_4 hx421_5 hx421_6
   have HR421_6 := o_ hi421_6
   have HC421_6 := o_ hl421_6
   clear hi421_6 hl421_6
   replace p421 := eq_true p421
   replace q421 := eq_true q421
   go_wp2_with (first | (go_at_call 79; (with_reducible refine (s_Valid.calls k1 ((rT l0 x3_1).f0) ((rT l0 x3_1).f1) ((rT l0 x3_1).f2) ((rT l0 x3_1).f3) ((rT l0 x3_1).f4) ((rT l0 x3_1).f5) _ _ ((rT l0 x3_1).f6) true _ ?side1 ?side2 A4.out).mono ?_); (case side1 => exact Kd.C_below HR421_6.out (bl HB)); (case side2 => exact HC421_6.out); rintro e w6 ⟨rfl, hb⟩; have n0_ := o_ (below_step (bl HB) hb); clear HB; have HB := n0_; clear n0_; (try clear hb)))
   go_roundg k1
   case measure => have := HK1.out; omega
   case rel => exact ⟨(wrap64 (x3_1 + 1)), (by first | rfl | simp [*]), H', ⟨by have := HK1.out; omega⟩, ⟨bl HB⟩⟩
end Go.Proofs.Yteadghhmoggjnaa.Q
end
section
namespace Go.Proofs.YteadghhmoggjnaaB
open Go.RowKit
open Yteadghhmoggjnaa.Q
open YteadghhmoggjnaaW.PrintWords YteadghhmoggjnaaW.PrintLast
set_option maxHeartbeats 1600000
theorem toList_data (s : ByteArray) : s.toList = s.data.toList := by
 have h : ∀ (n i : Nat) (r : List UInt8), s.size - i = n → ByteArray.toList.loop s i r = r.reverse ++ s.data.toList.drop i := by
  intro n
  induction n with
  | zero =>
   intro i r h
   unfold ByteArray.toList.loop
   rw [if_neg (by omega), List.drop_eq_nil_of_le (by show s.data.size ≤ i; have : s.size = s.data.size := rfl; omega), List.append_nil]
  | succ n ih =>
   intro i r h
   unfold ByteArray.toList.loop
   have hi : i < s.data.toList.length := by show i < s.data.size; have : s.size = s.data.size := rfl; omega
   rw [if_pos (by omega), ih (i + 1) _ (by omega), List.drop_eq_getElem_cons hi, List.reverse_cons, List.append_assoc]
   congr 1
   show s.get! i :: _ = _
   congr 1
   have hi2 : i < s.data.size := hi
   show s.data.getD i default = _
   rw [Array.getD, dif_pos hi2]
   rfl
 have := h _ 0 [] rfl
 rw [List.drop_zero] at this
 simpa [ByteArray.toList] using this
theorem bt_at (s : ByteArray) (i : Nat) (h : i < s.size) : bt s (i : Int) = ((s[i]'h).toNat : Int) := by
 unfold bt
 rw [dif_pos (by rw [Int.toNat_natCast]; exact h)]
 rfl
theorem drop_bytes (s : ByteArray) (i : Nat) (h : i < s.size) : s.data.toList.drop i = s[i]'h :: s.data.toList.drop (i + 1) := by
 have hi : i < s.data.toList.length := h
 rw [List.drop_eq_getElem_cons hi]
 rfl
theorem ref_IsName_l (s : ByteArray) (hs : s.size ≤ 17592186044415000) : ∀ (d i : Nat), i + d = s.size → Ev (fun k => s_IsName.l0 k s (i : Int)) ((s.data.toList.drop i).all goodB && (decide (1 ≤ s.size) && decide (s.size ≤ 10)))
 | 0, i, h => by
  have e : (s.data.toList.drop i).all goodB = true := by rw [List.drop_eq_nil_of_le (by show s.size ≤ i; omega)]; rfl
  rw [e, Bool.true_and]
  refine Ev.step (fun k => by rw [s_IsName.l0]) (ev_neg (by omega) ?_)
  by_cases h1 : 1 ≤ s.size
  ·refine ev_pos (by omega) (ev_now ?_)
   rw [decide_eq_true h1, Bool.true_and, decide_eq_decide]
   omega
  ·refine ev_neg (by omega) (ev_now ?_)
   rw [decide_eq_false h1, Bool.false_and]
 | d + 1, i, h => by
  have hi : i < s.size := by omega
  refine Ev.step (fun k => by rw [s_IsName.l0]) (ev_pos (by omega) (ev_pos (by omega) ?_))
  rw [bt_at s i hi, drop_bytes s i hi, List.all_cons]
  unfold goodB
  by_cases h1 : ((s[i]'hi).toNat : Int) < 33
  ·refine ev_pos h1 (ev_now ?_)
   rw [decide_eq_false (by omega : ¬ 33 ≤ (s[i]'hi).toNat)]
   rfl
  ·refine ev_neg h1 ?_
   rw [decide_eq_true (by omega : 33 ≤ (s[i]'hi).toNat)]
   by_cases h2 : ((s[i]'hi).toNat : Int) > 126
   ·refine ev_pos h2 (ev_now ?_)
    rw [decide_eq_false (by omega : ¬ (s[i]'hi).toNat ≤ 126)]
    rfl
   ·refine ev_neg h2 ?_
    rw [decide_eq_true (by omega : (s[i]'hi).toNat ≤ 126), Bool.true_and, Bool.true_and, w64_id (by omega) (by omega)]
    exact ref_IsName_l s hs d (i + 1) (by omega)
theorem ref_IsName (s : ByteArray) (hs : s.size ≤ 17592186044415000) : Ev (fun k => s_IsName.f k s) (namedB s) := by
 have h := ref_IsName_l s hs s.size 0 (by omega)
 rw [List.drop_zero] at h
 have e : namedB s = (s.data.toList.all goodB && (decide (1 ≤ s.size) && decide (s.size ≤ 10))) := by
  unfold namedB
  cases decide (1 ≤ s.size) <;> cases decide (s.size ≤ 10) <;> cases s.data.toList.all goodB <;> rfl
 rw [e]
 exact h
theorem ref_colour_l (s : ByteArray) (hs : s.size ≤ 17592186044415000) : ∀ (d i : Nat), i + d = s.size → Ev (fun k => s_colour.l0 k s (i : Int)) ((s.data.toList.drop i).all goodB && decide (s.size ≤ 20))
 | 0, i, h => by
  have e : (s.data.toList.drop i).all goodB = true := by rw [List.drop_eq_nil_of_le (by show s.size ≤ i; omega)]; rfl
  rw [e, Bool.true_and]
  refine Ev.step (fun k => by rw [s_colour.l0]) (ev_neg (by omega) (ev_now ?_))
  rw [decide_eq_decide]
  omega
 | d + 1, i, h => by
  have hi : i < s.size := by omega
  refine Ev.step (fun k => by rw [s_colour.l0]) (ev_pos (by omega) (ev_pos (by omega) ?_))
  rw [bt_at s i hi, drop_bytes s i hi, List.all_cons]
  unfold goodB
  by_cases h1 : ((s[i]'hi).toNat : Int) < 33
  ·refine ev_pos h1 (ev_now ?_)
   rw [decide_eq_false (by omega : ¬ 33 ≤ (s[i]'hi).toNat)]
   rfl
  ·refine ev_neg h1 ?_
   rw [decide_eq_true (by omega : 33 ≤ (s[i]'hi).toNat)]
   by_cases h2 : ((s[i]'hi).toNat : Int) > 126
   ·refine ev_pos h2 (ev_now ?_)
    rw [decide_eq_false (by omega : ¬ (s[i]'hi).toNat ≤ 126)]
    rfl
   ·refine ev_neg h2 ?_
    rw [decide_eq_true (by omega : (s[i]'hi).toNat ≤ 126), Bool.true_and, Bool.true_and, w64_id (by omega) (by omega)]
    exact ref_colour_l s hs d (i + 1) (by omega)
theorem ref_colour (s : ByteArray) (hs : s.size ≤ 17592186044415000) : Ev (fun k => s_colour.f k s) (colourB s) := by
 have h := ref_colour_l s hs s.size 0 (by omega)
 rw [List.drop_zero] at h
 unfold colourB
 rw [Bool.and_comm]
 exact h
theorem ref_Valid_l0 (x : S33) (hx : x.f6.length ≤ 17592186044415) (hs : x.f5.size ≤ 17592186044415000) : ∀ (d i : Nat) (b : Bool), i + d = x.f6.length →
  Ev (fun k => s_Valid.l0 k b (i : Int) x.f0 x.f1 x.f2 x.f3 x.f4 x.f5 x.f6) (b && allI farV (x.f6.drop i) && (colourB x.f5 && ((x.f2 == 0) && (x.f3 == 0))))
 | 0, i, b, h => by
  have e : allI farV (x.f6.drop i) = true := by rw [List.drop_eq_nil_of_le (by omega)]; rfl
  rw [e, Bool.and_true]
  refine Ev.step (fun k => by rw [s_Valid.l0]) (ev_neg (by omega) ?_)
  cases b
  ·exact ev_neg (by decide) (ev_now rfl)
  ·refine ev_pos rfl (Ev.bind (ref_colour x.f5 hs) ?_)
   cases colourB x.f5
   ·exact ev_neg (by decide) (ev_now rfl)
   ·refine ev_pos rfl ?_
    by_cases h2 : x.f2 = 0
    ·rw [h2]
     exact ev_pos rfl (ev_now (by simp))
    ·exact ev_neg h2 (ev_now (by rw [beq_eq_false_iff_ne.2 h2]; rfl))
 | d + 1, i, b, h => by
  have hi : i < x.f6.length := by omega
  have hx6 : x.f6[i]? = some x.f6[i] := List.getElem?_eq_getElem hi
  refine Ev.step (fun k => by rw [s_Valid.l0]) (ev_pos (by omega) ?_)
  rw [rd_at hx6, w64_suc (by omega), List.drop_eq_getElem_cons hi]
  have e : allI farV (x.f6[i] :: x.f6.drop (i + 1)) = (!(farV x.f6[i]) && allI farV (x.f6.drop (i + 1))) := rfl
  rw [e]
  cases b
  ·refine ev_neg (by decide) ?_
   have ih := ref_Valid_l0 x hx hs d (i + 1) false (by omega)
   rw [Bool.false_and, Bool.false_and] at ih ⊢
   exact ih
  ·refine ev_pos rfl (ev_pos (by omega) ?_)
   rw [Bool.true_and]
   unfold farV
   by_cases h1 : x.f6[i] ≥ -1000000
   ·refine ev_pos h1 ?_
    rw [decide_eq_false (by omega : ¬ x.f6[i] < -1000000), Bool.false_or]
    have ih := ref_Valid_l0 x hx hs d (i + 1) (decide (x.f6[i] ≤ 1000000)) (by omega)
    have e2 : (!(decide (1000000 < x.f6[i]))) = decide (x.f6[i] ≤ 1000000) := by
     by_cases h2 : x.f6[i] ≤ 1000000
     ·rw [decide_eq_true h2, decide_eq_false (by omega)]; rfl
     ·rw [decide_eq_false h2, decide_eq_true (by omega)]; rfl
    rw [e2]
    exact ih
   ·refine ev_neg h1 ?_
    rw [decide_eq_true (by omega : x.f6[i] < -1000000), Bool.true_or]
    have ih := ref_Valid_l0 x hx hs d (i + 1) false (by omega)
    rw [Bool.false_and, Bool.false_and] at ih
    exact ih
theorem toList_one (s : ByteArray) (b : UInt8) (h : s.toList = [b]) : s.size = 1 := by
 rw [toList_data] at h
 have := congrArg List.length h
 exact this
theorem ref_Valid_j4 (x : S33) (hx : x.f6.length ≤ 17592186044415) (hs : x.f5.size ≤ 17592186044415000) (b : Bool) :
  Ev (fun k => s_Valid.j4 k b x.f0 x.f1 x.f2 x.f3 x.f4 x.f5 x.f6) (b && allI farV x.f6 && (colourB x.f5 && ((x.f2 == 0) && (x.f3 == 0)))) := by
 have h := ref_Valid_l0 x hx hs x.f6.length 0 b (by omega)
 rw [List.drop_zero] at h
 exact Ev.step (fun k => by rw [s_Valid.j4]; rfl) h
def strokeT (s : ByteArray) : Bool := (s.toList == [108]) || (s.toList == [99]) || (s.toList == [101]) || (s.toList == [97]) || (s.toList == [126])
theorem strokeT_eq (s : ByteArray) : ((s.size == 1) && strokeB s) = strokeT s := by
 unfold strokeB strokeT
 rw [← toList_data]
 cases hst : ((s.toList == [108]) || (s.toList == [99]) || (s.toList == [101]) || (s.toList == [97]) || (s.toList == [126]))
 ·exact Bool.and_false _
 ·rw [Bool.and_true]
  simp only [Bool.or_eq_true, beq_iff_eq] at hst
  rcases hst with (((h | h) | h) | h) | h <;> rw [toList_one s _ h] <;> rfl
theorem ref_Valid_j3 (x : S33) (hx : x.f6.length ≤ 17592186044415) (hs : x.f5.size ≤ 17592186044415000) (p q c : Bool) (hc : c = (x.f0 == 2 || x.f0 == 6)) :
  Ev (fun k => s_Valid.j3 k p q x.f0 c x.f0 x.f1 x.f2 x.f3 x.f4 x.f5 x.f6)
   (if x.f0 = 2 ∨ x.f0 = 6 ∨ x.f0 = 3 then p && q else if x.f0 = 4 then (decide (x.f6.length ≤ 40) && strokeT x.f4) && allI farV x.f6 && (colourB x.f5 && ((x.f2 == 0) && (x.f3 == 0))) else if x.f0 = 5 then p && (q && (x.f1 == 0)) else false) := by
 refine Ev.step (fun k => by rw [s_Valid.j3]) ?_
 by_cases h26 : x.f0 = 2 ∨ x.f0 = 6
 ·have : c = true := by rw [hc]; rcases h26 with h | h <;> rw [h] <;> rfl
  rw [if_pos (by omega : x.f0 = 2 ∨ x.f0 = 6 ∨ x.f0 = 3)]
  refine ev_pos this ?_
  cases p
  ·exact ev_neg (by decide) (ev_now rfl)
  ·exact ev_pos rfl (ev_now rfl)
 ·have : c = false := by rw [hc, beq_eq_false_iff_ne.2 (fun e => h26 (.inl e)), beq_eq_false_iff_ne.2 (fun e => h26 (.inr e))]; rfl
  refine ev_neg (by rw [this]; decide) ?_
  by_cases h3 : x.f0 = 3
  ·rw [if_pos (by omega : x.f0 = 2 ∨ x.f0 = 6 ∨ x.f0 = 3)]
   refine ev_pos h3 ?_
   cases p
   ·exact ev_neg (by decide) (ev_now rfl)
   ·exact ev_pos rfl (ev_now rfl)
  ·rw [if_neg (by omega : ¬ (x.f0 = 2 ∨ x.f0 = 6 ∨ x.f0 = 3))]
   refine ev_neg h3 ?_
   by_cases h4 : x.f0 = 4
   ·refine ev_pos h4 ?_
    rw [if_pos h4]
    by_cases hl : x.f6.length ≤ 40
    ·rw [decide_eq_true hl, Bool.true_and]
     refine ev_pos (by omega) ?_
     have hj := fun b => ref_Valid_j4 x hx hs b
     unfold strokeT
     by_cases a1 : x.f4.toList = [108]
     ·refine ev_pos a1 ?_
      rw [a1]; exact hj true
     ·refine ev_neg a1 ?_
      rw [beq_eq_false_iff_ne.2 a1, Bool.false_or]
      by_cases a2 : x.f4.toList = [99]
      ·refine ev_pos a2 ?_
       rw [a2]; exact hj true
      ·refine ev_neg a2 ?_
       rw [beq_eq_false_iff_ne.2 a2, Bool.false_or]
       by_cases a3 : x.f4.toList = [101]
       ·refine ev_pos a3 ?_
        rw [a3]; exact hj true
       ·refine ev_neg a3 ?_
        rw [beq_eq_false_iff_ne.2 a3, Bool.false_or]
        by_cases a4 : x.f4.toList = [97]
        ·refine ev_pos a4 ?_
         rw [a4]; exact hj true
        ·refine ev_neg a4 ?_
         rw [beq_eq_false_iff_ne.2 a4, Bool.false_or]
         exact hj _
    ·refine ev_neg (by omega) ?_
     rw [decide_eq_false hl, Bool.false_and]
     exact ref_Valid_j4 x hx hs false
   ·refine ev_neg h4 ?_
    rw [if_neg h4]
    by_cases h5 : x.f0 = 5
    ·refine ev_pos h5 ?_
     rw [if_pos h5]
     cases p
     ·exact ev_neg (by decide) (ev_now rfl)
     ·refine ev_pos rfl ?_
      cases q
      ·exact ev_neg (by decide) (ev_now rfl)
      ·exact ev_pos rfl (ev_now rfl)
    ·refine ev_neg h5 (ev_now ?_)
     rw [if_neg h5]
theorem ref_Valid_j2 (x : S33) (hx : x.f6.length ≤ 17592186044415) (hs : x.f5.size ≤ 17592186044415000) (hs4 : x.f4.size ≤ 17592186044415000) (p q : Bool) :
  Ev (fun k => s_Valid.j2 k p q x.f0 x.f1 x.f2 x.f3 x.f4 x.f5 x.f6)
   (if x.f0 = 0 then namedB x.f4 && (colourB x.f5 && (x.f6.length == 0)) else if x.f0 = 1 then p && ((x.f4.toList == []) || (x.f4.toList == [126])) else
    if x.f0 = 2 ∨ x.f0 = 6 ∨ x.f0 = 3 then p && q else if x.f0 = 4 then (decide (x.f6.length ≤ 40) && strokeT x.f4) && allI farV x.f6 && (colourB x.f5 && ((x.f2 == 0) && (x.f3 == 0))) else if x.f0 = 5 then p && (q && (x.f1 == 0)) else false) := by
 have hlen : ((x.f6.length : Int) == 0) = (x.f6.length == 0) := by
  cases h : (x.f6.length == 0)
  ·rw [beq_eq_false_iff_ne] at h ⊢; omega
  ·rw [beq_iff_eq] at h ⊢; omega
 refine Ev.step (fun k => by rw [s_Valid.j2]) ?_
 by_cases h0 : x.f0 = 0
 ·refine ev_pos h0 (Ev.bind (ref_IsName x.f4 hs4) ?_)
  rw [if_pos h0]
  cases namedB x.f4
  ·exact ev_neg (by decide) (ev_now rfl)
  ·refine ev_pos rfl (Ev.bind (ref_colour x.f5 hs) ?_)
   cases colourB x.f5
   ·exact ev_neg (by decide) (ev_now rfl)
   ·exact ev_pos rfl (ev_now hlen)
 ·refine ev_neg h0 ?_
  rw [if_neg h0]
  by_cases h1 : x.f0 = 1
  ·refine ev_pos h1 ?_
   rw [if_pos h1]
   cases p
   ·exact ev_neg (by decide) (ev_now rfl)
   ·refine ev_pos rfl ?_
    by_cases h4 : x.f4.toList = []
    ·refine ev_pos h4 (ev_now ?_)
     rw [h4]; rfl
    ·refine ev_neg h4 (ev_now ?_)
     rw [beq_eq_false_iff_ne.2 h4]; rfl
  ·refine ev_neg h1 ?_
   rw [if_neg h1]
   by_cases h2 : x.f0 = 2
   ·refine ev_pos h2 ?_
    exact ref_Valid_j3 x hx hs p q _ (by rw [h2]; rfl)
   ·refine ev_neg h2 ?_
    exact ref_Valid_j3 x hx hs p q _ (by rw [beq_eq_false_iff_ne.2 h2]; rfl)
theorem ref_Valid (x : S33) (hx : x.f6.length ≤ 17592186044415) (hs : x.f5.size ≤ 17592186044415000) (hs4 : x.f4.size ≤ 17592186044415000) : Ev (fun k => s_Valid.f k x.f0 x.f1 x.f2 x.f3 x.f4 x.f5 x.f6) (validB x) := by
  have hlen : ((x.f6.length : Int) == 0) = (x.f6.length == 0) := by
    cases h : (x.f6.length == 0)
    · rw [beq_eq_false_iff_ne] at h ⊢; omega
    · rw [beq_iff_eq] at h ⊢; omega
  have hbad : x.f1 < -1000000 ∨ 1000000 < x.f1 ∨ x.f2 < 0 ∨ x.f3 < 0 → validB x = false := fun h => by
    unfold validB
    rcases h with h | h | h | h <;> rw [decide_eq_true h] <;> simp
  have hj0 : (x.f1 < -1000000 ∨ 1000000 < x.f1 ∨ x.f2 < 0 ∨ x.f3 < 0) → Ev (fun k => s_Valid.j0 k true x.f0 x.f1 x.f2 x.f3 x.f4 x.f5 x.f6) (validB x) := fun h => by
    rw [hbad h]
    exact Ev.step (fun k => by rw [s_Valid.j0]) (ev_pos rfl (ev_now rfl))
  show Ev (fun k => if x.f1 < (-1000000) then _ else _) _
  by_cases h1 : x.f1 < -1000000
  · exact ev_pos h1 (hj0 (.inl h1))
  · refine ev_neg h1 ?_
    by_cases h2 : x.f1 > 1000000
    · exact ev_pos h2 (hj0 (.inr (.inl h2)))
    · refine ev_neg h2 ?_
      by_cases h3 : x.f2 < 0
      · exact ev_pos h3 (hj0 (.inr (.inr (.inl h3))))
      · refine ev_neg h3 ?_
        by_cases h4 : x.f3 < 0
        · rw [decide_eq_true h4]
          exact hj0 (.inr (.inr (.inr h4)))
        · rw [decide_eq_false h4]
          refine Ev.step (fun k => by rw [s_Valid.j0]) (ev_neg (by decide) ?_)
          have hj2 := fun p q => ref_Valid_j2 x hx hs hs4 p q
          have hv : validB x = (colourB x.f5 && (if x.f0 = 0 then namedB x.f4 && (x.f6.length == 0)
   else if x.f0 = 1 then ((x.f4.toList == []) || (x.f4.toList == [126])) && (x.f5.toList == []) && (x.f6.length == 0)
   else if x.f0 = 4 then (x.f2 == 0) && (x.f3 == 0) && (x.f4.size == 1) && strokeB x.f4 && decide (x.f6.length ≤ 40) && allI farV x.f6
   else if x.f0 = 5 then bareB x && (x.f4.toList == []) && (x.f1 == 0)
   else if x.f0 = 2 ∨ x.f0 = 3 ∨ x.f0 = 6 then bareB x && (x.f4.toList == [])
   else false)) := by
            unfold validB
            rw [decide_eq_false h1, decide_eq_false h2, decide_eq_false h3, decide_eq_false h4]
            simp
          have hcol : x.f5.toList = [] → colourB x.f5 = true := fun h => by
            rw [toList_data] at h
            unfold colourB
            rw [h]
            have : x.f5.size = 0 := congrArg List.length h
            rw [this]
            rfl
          have key : ∀ p q, p = ((x.f5.toList == []) && (x.f6.length == 0)) → q = ((x.f2 == 0) && ((x.f3 == 0) && (x.f4.toList == []))) →
              (if x.f0 = 0 then namedB x.f4 && (colourB x.f5 && (x.f6.length == 0)) else if x.f0 = 1 then p && ((x.f4.toList == []) || (x.f4.toList == [126])) else
        if x.f0 = 2 ∨ x.f0 = 6 ∨ x.f0 = 3 then p && q else if x.f0 = 4 then (decide (x.f6.length ≤ 40) && strokeT x.f4) && allI farV x.f6 && (colourB x.f5 && ((x.f2 == 0) && (x.f3 == 0))) else if x.f0 = 5 then p && (q && (x.f1 == 0)) else false) = validB x := by
            intro p q hp hq
            rw [hv, hp, hq]
            have hpc : (colourB x.f5 && (x.f5.toList == [])) = (x.f5.toList == []) := by
              cases hb : (x.f5.toList == [])
              · exact Bool.and_false _
              · rw [hcol (beq_iff_eq.1 hb)]; rfl
            by_cases g0 : x.f0 = 0
            · rw [if_pos g0, if_pos g0]
              cases namedB x.f4 <;> cases colourB x.f5 <;> rfl
            · rw [if_neg g0, if_neg g0]
              by_cases g1 : x.f0 = 1
              · rw [if_pos g1, if_pos g1]
                revert hpc
                cases colourB x.f5 <;> cases (x.f5.toList == []) <;> cases (x.f6.length == 0) <;> cases ((x.f4.toList == []) || (x.f4.toList == [126])) <;> intro hpc <;> first | rfl | (exact absurd hpc (by decide))
              · rw [if_neg g1, if_neg g1]
                by_cases g4 : x.f0 = 4
                · rw [if_neg (by omega : ¬ (x.f0 = 2 ∨ x.f0 = 6 ∨ x.f0 = 3)), if_pos g4, if_pos g4, ← strokeT_eq]
                  cases colourB x.f5 <;> cases (x.f2 == 0) <;> cases (x.f3 == 0) <;> cases (x.f4.size == 1) <;> cases strokeB x.f4 <;> cases decide (x.f6.length ≤ 40) <;> cases allI farV x.f6 <;> rfl
                · rw [if_neg g4, if_neg g4]
                  unfold bareB
                  by_cases g5 : x.f0 = 5
                  · rw [if_neg (by omega : ¬ (x.f0 = 2 ∨ x.f0 = 6 ∨ x.f0 = 3)), if_pos g5, if_pos g5]
                    revert hpc
                    cases colourB x.f5 <;> cases (x.f5.toList == []) <;> cases (x.f6.length == 0) <;> cases (x.f2 == 0) <;> cases (x.f3 == 0) <;> cases (x.f4.toList == []) <;> cases (x.f1 == 0) <;> intro hpc <;> first | rfl | (exact absurd hpc (by decide))
                  · rw [if_neg g5, if_neg g5]
                    by_cases g2 : x.f0 = 2 ∨ x.f0 = 3 ∨ x.f0 = 6
                    · rw [if_pos (by omega : x.f0 = 2 ∨ x.f0 = 6 ∨ x.f0 = 3), if_pos g2]
                      revert hpc
                      cases colourB x.f5 <;> cases (x.f5.toList == []) <;> cases (x.f6.length == 0) <;> cases (x.f2 == 0) <;> cases (x.f3 == 0) <;> cases (x.f4.toList == []) <;> intro hpc <;> first | rfl | (exact absurd hpc (by decide))
                    · rw [if_neg (by omega : ¬ (x.f0 = 2 ∨ x.f0 = 6 ∨ x.f0 = 3)), if_neg g2, Bool.and_false]
          have hj1 : ∀ p, p = ((x.f5.toList == []) && (x.f6.length == 0)) → Ev (fun k => s_Valid.j1 k p x.f0 x.f1 x.f2 x.f3 x.f4 x.f5 x.f6) (validB x) := fun p hp => by
            refine Ev.step (fun k => by rw [s_Valid.j1]) ?_
            by_cases g2 : x.f2 = 0
            · refine ev_pos g2 ?_
              by_cases g3 : x.f3 = 0
              · refine ev_pos g3 ?_
                rw [← key p (x.f4.toList == []) hp (by rw [g2, g3]; rfl)]
                exact hj2 _ _
              · refine ev_neg g3 ?_
                rw [← key p false hp (by rw [beq_eq_false_iff_ne.2 g3, Bool.false_and, Bool.and_false])]
                exact hj2 _ _
            · refine ev_neg g2 ?_
              rw [← key p false hp (by rw [beq_eq_false_iff_ne.2 g2, Bool.false_and])]
              exact hj2 _ _
          by_cases g5 : x.f5.toList = []
          · refine ev_pos g5 (hj1 _ ?_)
            rw [hlen, g5]; rfl
          · refine ev_neg g5 (hj1 _ ?_)
            rw [beq_eq_false_iff_ne.2 g5, Bool.false_and]
def Fit (x : S33) : Prop := x.f6.length ≤ 17592186044415 ∧ x.f5.size ≤ 17592186044415000 ∧ x.f4.size ≤ 17592186044415000
theorem ref_check_l (l : List S33) (hl : l.length ≤ 1000000) (hf : ∀ x ∈ l, Fit x) : ∀ (d i : Nat), i + d = l.length →
  Ev (fun k => r_check.l0 k l (i : Int)) (if (l.drop i).all validB = true then (if 5000 < l.length then 2 else 0) else 1)
 | 0, i, h => by
  rw [List.drop_eq_nil_of_le (by omega), if_pos (show ([] : List S33).all validB = true from rfl)]
  refine Ev.step (fun k => by rw [r_check.l0]) (ev_neg (by omega) ?_)
  by_cases h5 : 5000 < l.length
  ·rw [if_pos h5]; exact ev_pos (by omega) (ev_now rfl)
  ·rw [if_neg h5]; exact ev_neg (by omega) (ev_now rfl)
 | d + 1, i, h => by
  have hi : i < l.length := by omega
  have hx : l[i]? = some l[i] := List.getElem?_eq_getElem hi
  have hfx := hf l[i] (List.getElem_mem hi)
  rw [List.drop_eq_getElem_cons hi, List.all_cons]
  refine Ev.step (fun k => by rw [r_check.l0]) (ev_pos (by omega) (ev_pos (by omega) ?_))
  rw [rdT_at hx, w64_succ (by omega)]
  refine Ev.bind (ref_Valid l[i] hfx.1 hfx.2.1 hfx.2.2) ?_
  cases validB l[i]
  ·exact ev_neg (by decide) (ev_now rfl)
  ·refine ev_pos rfl ?_
   rw [Bool.true_and]
   exact ref_check_l l hl hf d (i + 1) (by omega)
theorem ref_check (l : List S33) (hl : l.length ≤ 1000000) (hf : ∀ x ∈ l, Fit x) : Ev (fun k => r_check.f k l) (if l.all validB = true then (if 5000 < l.length then 2 else 0) else 1) := by
 have h := ref_check_l l hl hf l.length 0 (by omega)
 rw [List.drop_zero] at h
 exact h
def hyphB (h : S33) : Bool := validB h && ((h.f0 == 0) || (h.f0 == 5))
theorem hyphB_kind {h : S33} (hh : hyphB h = true) : h.f0 = 0 ∨ h.f0 = 5 := by
 unfold hyphB at hh
 simp only [Bool.and_eq_true, Bool.or_eq_true, beq_iff_eq] at hh
 exact hh.2
theorem ref_hyph (h : S33) (hf : Fit h) : Ev (fun k => r_isHyphen.f k h.f0 h.f1 h.f2 h.f3 h.f4 h.f5 h.f6) (hyphB h) := by
 unfold hyphB
 refine Ev.bind (ref_Valid h hf.1 hf.2.1 hf.2.2) ?_
 cases validB h
 ·exact ev_neg (by decide) (ev_now rfl)
 ·refine ev_pos rfl ?_
  by_cases h0 : h.f0 = 0
  ·rw [h0]; exact ev_pos rfl (ev_now rfl)
  ·rw [beq_eq_false_iff_ne.2 h0]; exact ev_neg h0 (ev_now rfl)
theorem fill_hyph (h : S33) : fill_hyphens.f h.f0 h.f1 h.f2 h.f3 h.f4 h.f5 h.f6 = some (hyphB h) := by
 unfold fill_hyphens.f glyph_Valid.f hyphB
 rw [Option.bind_some]
 cases validB h
 ·exact if_neg (by decide)
 ·rw [if_pos rfl]
  by_cases h0 : h.f0 = 0
  ·rw [h0]; rfl
  ·rw [if_neg h0, beq_eq_false_iff_ne.2 h0]; rfl
end Go.Proofs.YteadghhmoggjnaaB
end
