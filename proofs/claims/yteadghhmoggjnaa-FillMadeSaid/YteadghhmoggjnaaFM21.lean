import Derived.Test.YteadghhmoggjnaaFM19
import Derived.Test.YteadghhmoggjnaaFM20
set_option linter.unusedVariables false
set_option linter.unusedSimpArgs false
section
namespace Go.Proofs.YteadghhmoggjnaaB
open Go.RowKit
open Yteadghhmoggjnaa.Q
open YteadghhmoggjnaaW.PrintWords YteadghhmoggjnaaW.PrintLast
set_option maxHeartbeats 1600000
theorem begA_len (R : List S33) {i : Nat} (hi : i ≤ R.length) : (restL (R.drop i)).length + begA R i = R.length := by
 have h1 := begA_drop (row := R) i
 have h2 := begA_le (row := R) hi
 have h3 := congrArg List.length h1
 rw [List.length_drop] at h3
 omega
theorem begA_blank (R : List S33) {i : Nat} (hi : i < R.length) (hb : blankB R[i] = true) : begA R (i + 1) = begA R i := by
 have h1 := begA_len R (Nat.le_of_lt hi)
 have h2 := begA_len R (i := i + 1) (by omega)
 rw [List.drop_eq_getElem_cons hi, restL_cons, if_pos hb] at h1
 omega
theorem begA_solid (R : List S33) {i : Nat} (hi : i < R.length) (hb : ¬ blankB R[i] = true) : begA R i = i := by
 have h1 := begA_len R (Nat.le_of_lt hi)
 rw [List.drop_eq_getElem_cons hi, restL_cons, if_neg hb, List.length_cons, List.length_drop] at h1
 omega
theorem placesL_mem {l : List S33} {p : Int} (h : p ∈ placesL l) : ∃ q : Nat, p = (q : Int) ∧ brk l q = true := by
 unfold placesL placesTo at h
 obtain ⟨q, hq, rfl⟩ := List.mem_map.1 h
 exact ⟨q, rfl, (List.mem_filter.1 hq).2⟩
theorem brk_lt {l : List S33} {q : Nat} (h : brk l q = true) : q + 1 < l.length := by
 unfold brk at h
 cases hx : l[q]? with
 | none => rw [hx] at h; cases h
 | some x =>
  rw [hx] at h
  simp only [Bool.and_eq_true] at h
  have h2 := h.2.2
  apply Nat.lt_of_not_le
  intro hle
  rw [List.drop_eq_nil_of_le hle] at h2
  exact absurd h2 (by unfold noneB; decide)
theorem restL_solid {l : List S33} (h : ∀ x, l[0]? = some x → blankB x = false) : restL l = l := by
 cases l with
 | nil => rfl
 | cons x r => rw [restL_cons, if_neg (by rw [h x rfl]; decide)]
section
variable (R : List S33) (len : Int) (h : S33) (hR : R.length ≤ 1000000) (hh : h.f0 = 0 ∨ h.f0 = 5)
include hR in
theorem ref_take_skip (e : Int) (r : List S33 × List S33 × Bool) : ∀ (d i : Nat), i + d = begA R i → i ≤ R.length → Ev (fun k => r_take.j2 k R len e (begA R i : Nat) h.f0 h.f1 h.f2 h.f3 h.f4 h.f5 h.f6) r → Ev (fun k => r_take.l1 k R len e (i : Int) h.f0 h.f1 h.f2 h.f3 h.f4 h.f5 h.f6) r
 | 0, i, hd, hi, hj => by
  have hbi : begA R i = i := by omega
  refine Ev.step (fun k => by rw [r_take.l1]) ?_
  rw [hbi] at hj
  by_cases hlt : i < R.length
  ·have hx : R[i]? = some R[i] := List.getElem?_eq_getElem hlt
   refine ev_pos (by omega) (ev_pos (by omega) ?_)
   rw [rdT_at hx, blank_f]
   refine ev_some (ev_neg ?_ hj)
   intro hb
   have h1 := begA_blank R hlt hb
   have h2 := begA_ge R (i + 1)
   omega
  ·exact ev_neg (by omega) hj
 | d + 1, i, hd, hi, hj => by
  have hle := begA_le (row := R) hi
  have hlt : i < R.length := by omega
  have hx : R[i]? = some R[i] := List.getElem?_eq_getElem hlt
  refine Ev.step (fun k => by rw [r_take.l1]) (ev_pos (by omega) (ev_pos (by omega) ?_))
  rw [rdT_at hx, blank_f, w64_succ (by omega)]
  have hb : blankB R[i] = true := by
   apply Classical.byContradiction
   intro hb
   have := begA_solid R hlt hb
   omega
  refine ev_some (ev_pos hb ?_)
  have e1 := begA_blank R hlt hb
  exact ref_take_skip e r d (i + 1) (by omega) (by omega) (by rw [e1]; exact hj)
include hR hh in
theorem ref_take_l2 (hR0 : ∀ x, R[0]? = some x → blankB x = false) (i : Nat) (hi : i < R.length) (hbR : begA R i ≠ R.length) :
  ∀ (m : Nat), m ≤ (allA R i).length →
   Ev (fun k => r_take.l2 k R len (i : Int) (begA R i : Nat) ((stopA R i - begA R i : Nat) : Int) ((R.drop (begA R i)).take (stopA R i - begA R i)) (allA R i) ((m : Int) - 1) h.f0 h.f1 h.f2 h.f3 h.f4 h.f5 h.f6)
    (match ((allA R i).take m).reverse.find? (fitsL R len h i) with
     | some p => ansCut R h i p
     | none => if 0 < i then (R.take i, restL (R.drop i), true) else
      match (allA R i)[0]? with
      | some p => ansCut R h i p
      | none => (R.take (stopA R i), restL (R.drop (stopA R i)), true)) := by
 have hb1 := begA_le (row := R) (Nat.le_of_lt hi)
 have hs1 := stopA_le (row := R) (Nat.le_of_lt hi)
 have hs2 := stopA_gt hi hbR
 have hyl : ((R.drop (begA R i)).take (stopA R i - begA R i)).length = stopA R i - begA R i := by rw [List.length_take, List.length_drop]; omega
 have hmem : ∀ p, p ∈ allA R i → ∃ q : Nat, p = (q : Int) ∧ begA R i + q + 1 < stopA R i := fun p hp => by
  obtain ⟨q, e, hq⟩ := placesL_mem hp
  have := brk_lt hq
  rw [hyl] at this
  exact ⟨q, e, by omega⟩
 have hword : ∀ j, begA R i ≤ j → (hj : j < stopA R i) → ∀ x, R[j]? = some x → blankB x = false := fun j h1 h2 x hx => by
  have hfi : stopA R i = begA R i + (R.drop (begA R i)).findIdx blankB := rfl
  have h4 := List.not_of_lt_findIdx (p := blankB) (xs := R.drop (begA R i)) (i := j - begA R i) (by omega)
  rw [List.getElem_drop] at h4
  obtain ⟨hjl, rfl⟩ := List.getElem?_eq_some_iff.1 hx
  simp only [show begA R i + (j - begA R i) = j by omega] at h4
  simpa using h4
 have hleft : ∀ q : Nat, begA R i + q + 1 < stopA R i → restL (R.drop (begA R i + q + 1)) = R.drop (begA R i + q + 1) := fun q hq => restL_solid (fun x hx => by
  rw [List.getElem?_drop] at hx
  exact hword (begA R i + q + 1 + 0) (by omega) (by omega) x hx)
 have hcut : ∀ q : Nat, begA R i + q + 1 < stopA R i → R.take (begA R i) ++ ((R.drop (begA R i)).take (stopA R i - begA R i)).take q = R.take (begA R i + q) := fun q hq => by
  rw [List.take_take, Nat.min_eq_left (by omega), List.take_add]
 intro m
 induction m with
 | zero =>
  intro hm
  refine Ev.step (fun k => by rw [r_take.l2]) (ev_neg (by omega) ?_)
  show Ev _ (if 0 < i then _ else _)
  by_cases h0 : 0 < i
  ·rw [if_pos h0]
   refine ev_pos (by omega) (ev_pos (by omega) (ev_pos (by omega) (ev_pos (by omega) (ev_pos (by omega) (ev_now ?_)))))
   rw [Int.toNat_natCast, Int.toNat_natCast, begA_drop]
  ·rw [if_neg h0]
   obtain rfl : i = 0 := by omega
   have hb0 : begA R 0 = 0 := begA_solid R hi (by rw [hR0 _ (List.getElem?_eq_getElem hi)]; decide)
   refine ev_neg (by omega) ?_
   cases hall : allA R 0 with
   | nil =>
    refine ev_neg (by simp) ?_
    rw [hb0, Nat.sub_zero]
    refine ev_pos (by omega) (ev_pos (by omega) ?_)
    rw [Int.toNat_natCast]
    refine Ev.bind (ref_front (R.drop (stopA R 0)) (by rw [List.length_drop]; omega)) (ev_now ?_)
    rfl
   | cons p r =>
    obtain ⟨q, e, hq⟩ := hmem p (by rw [hall]; exact List.mem_cons_self)
    subst e
    refine ev_pos (by simp) (ev_pos (by simp) ?_)
    have hrd : rd ((q : Int) :: r) 0 = (q : Int) := rfl
    rw [hrd, ref_cut [] _ q h (by simp) (by rw [hyl]; omega) (by rw [hyl]; omega) hh, w64_succ (by omega)]
    refine ev_some (ev_pos (by omega) (ev_pos (by omega) (ev_now ?_)))
    have hc := hcut q hq
    rw [hb0] at hc hq
    rw [hb0]
    show _ = ansCut R h 0 (q : Int)
    unfold ansCut cutL
    rw [hb0, Int.toNat_natCast, Int.toNat_natCast]
    have hl := hleft q (by rw [hb0]; exact hq)
    rw [hb0] at hl
    rw [hl, List.nil_append]
    rw [List.take_zero, List.nil_append] at hc
    rw [hc, Nat.zero_add]
 | succ m ih =>
  intro hm
  obtain ⟨p, hp⟩ : ∃ p, (allA R i)[m]? = some p := ⟨_, List.getElem?_eq_getElem (by omega)⟩
  obtain ⟨q, e, hq⟩ := hmem p (List.mem_of_getElem? hp)
  subst e
  have e1 : (((m + 1 : Nat) : Int) - 1) = (m : Int) := by omega
  rw [e1]
  refine Ev.step (fun k => by rw [r_take.l2]) (ev_pos (by omega) (ev_pos (by omega) (ev_pos (by omega) (ev_pos (by omega) (ev_pos (by omega) ?_)))))
  rw [rd_at hp, Int.toNat_natCast, ref_cut _ _ q h (by rw [List.length_take]; omega) (by rw [hyl]; omega) (by rw [hyl]; omega) hh, hcut q hq]
  have htk : ((allA R i).take (m + 1)).reverse = (q : Int) :: ((allA R i).take m).reverse := by
   obtain ⟨hml, e⟩ := List.getElem?_eq_some_iff.1 hp
   rw [List.take_succ_eq_append_getElem hml, List.reverse_append, e]
   rfl
  rw [htk, List.find?_cons]
  refine ev_some (Ev.bind (⟨R.length + 3, fun k hk => ref_width (hyph (R.take (begA R i + q)) h) (by have := hyph_len (R.take (begA R i + q)) h; rw [List.length_take] at this; omega) (by have := hyph_len (R.take (begA R i + q)) h; rw [List.length_take] at this; omega)⟩) ?_)
  have hft : fitsL R len h i (q : Int) = decide (widthW (hyph (R.take (begA R i + q)) h) ≤ len) := rfl
  rw [hft]
  have hlq := hleft q hq
  by_cases hw : widthW (hyph (R.take (begA R i + q)) h) ≤ len
  ·rw [decide_eq_true hw]
   refine ev_pos hw ?_
   have e2 : wrap64 (wrap64 (((begA R i : Nat) : Int) + (q : Int)) + 1) = ((begA R i + q + 1 : Nat) : Int) := by
    rw [w64_id (n := ((begA R i : Nat) : Int) + (q : Int)) (by omega) (by omega), w64_id (by omega) (by omega)]
    omega
   rw [e2]
   clear e2 ih hword hmem hleft hcut
   refine ev_pos (Int.natCast_nonneg _) (ev_pos (Int.ofNat_le.2 (by omega)) (ev_now ?_))
   show _ = ansCut R h i (q : Int)
   unfold ansCut cutL
   rw [Int.toNat_natCast, Int.toNat_natCast, hlq]
  ·rw [decide_eq_false hw]
   refine ev_neg hw ?_
   have hal : (allA R i).length ≤ 1000000 := by
    have h1 := placesTo_len ((R.drop (begA R i)).take (stopA R i - begA R i)) ((R.drop (begA R i)).take (stopA R i - begA R i)).length
    rw [hyl] at h1
    have e : (allA R i).length = (placesL ((R.drop (begA R i)).take (stopA R i - begA R i))).length := rfl
    unfold placesL at e
    rw [hyl] at e
    omega
   have e2 : wrap64 ((m : Int) - 1) = (m : Int) - 1 := w64_id (by omega) (by omega)
   rw [e2]
   exact ih (by omega)
include hR hh in
theorem ref_take_l0 (hR0 : ∀ x, R[0]? = some x → blankB x = false) : ∀ (f i : Nat), R.length < f + i → i ≤ R.length → Ev (fun k => r_take.l0 k R len (i : Int) (i : Int) h.f0 h.f1 h.f2 h.f3 h.f4 h.f5 h.f6) (takeGo R len h f i)
 | 0, i, hf, hi => by omega
 | f + 1, i, hf, hi => by
  have hb1 := begA_le (row := R) hi
  have hb2 := begA_ge R i
  refine Ev.step (fun k => by rw [r_take.l0]) (ref_take_skip R len h hR (i : Int) _ (begA R i - i) i (by omega) hi ?_)
  refine Ev.step (fun k => by rw [r_take.j2]) ?_
  unfold takeGo
  by_cases hi2 : i < R.length
  ·rw [if_pos hi2]
   by_cases hbR : begA R i = R.length
   ·rw [if_pos hbR]
    exact ev_pos (by omega) (ev_now rfl)
   ·rw [if_neg hbR]
    have hs1 := stopA_le (row := R) hi
    have hs2 := stopA_gt hi2 hbR
    have hfi : stopA R i = begA R i + (R.drop (begA R i)).findIdx blankB := rfl
    refine ev_neg (by omega) (Ev.bind (ref_word R hR (begA R i) hb1) ?_)
    have e1 : wrap64 (((begA R i : Nat) : Int) + (((R.drop (begA R i)).findIdx blankB : Nat) : Int)) = ((stopA R i : Nat) : Int) := by
     rw [hfi, w64_id (by omega) (by omega)]
     omega
    rw [e1, Int.toNat_natCast]
    refine ev_pos (by omega) (ev_pos (by omega) (Ev.bind (⟨R.length + 3, fun k hk => ref_width (R.take (stopA R i)) (by rw [List.length_take]; omega) (by rw [List.length_take]; omega)⟩) ?_))
    by_cases hw : widthW (R.take (stopA R i)) ≤ len
    ·rw [if_pos hw]
     exact ev_pos hw (ref_take_l0 hR0 f (stopA R i) (by omega) hs1)
    ·rw [if_neg hw]
     refine ev_neg hw (ev_pos (by omega) (ev_pos (by omega) (ev_some ?_)))
     rw [Int.toNat_natCast, List.drop_take]
     refine Ev.bind (ref_places ((R.drop (begA R i)).take (stopA R i - begA R i)) (by rw [List.length_take, List.length_drop]; omega)) ?_
     have hal : (allA R i).length ≤ R.length := by
      have := placesTo_len ((R.drop (begA R i)).take (stopA R i - begA R i)) ((R.drop (begA R i)).take (stopA R i - begA R i)).length
      rw [List.length_take, List.length_drop] at this
      have e : (allA R i).length = (placesL ((R.drop (begA R i)).take (stopA R i - begA R i))).length := rfl
      unfold placesL at e
      rw [List.length_take, List.length_drop] at e
      omega
     have e3 : placesL ((R.drop (begA R i)).take (stopA R i - begA R i)) = allA R i := rfl
     rw [e3]
     have e2 : wrap64 (((allA R i).length : Int) - 1) = ((allA R i).length : Int) - 1 := w64_id (by omega) (by omega)
     rw [e2]
     have hl2 := ref_take_l2 R len h hR hh hR0 i hi2 hbR (allA R i).length (Nat.le_refl _)
     rw [List.take_length] at hl2
     have e4 : ((R.drop (begA R i)).findIdx blankB : Nat) = stopA R i - begA R i := by omega
     rw [e4]
     exact hl2
  ·rw [if_neg hi2]
   exact ev_pos (by omega) (ev_now rfl)
end
theorem ref_take (l : List S33) (len : Int) (h : S33) (hl : l.length ≤ 1000000) (hh : h.f0 = 0 ∨ h.f0 = 5) : Ev (fun k => r_take.f k l len h.f0 h.f1 h.f2 h.f3 h.f4 h.f5 h.f6) (takeL l len h) := by
 have hr := restL_le l
 exact Ev.bind (ref_front l hl) (ref_take_l0 (restL l) len h (by omega) hh (fun x hx => restL_head hx) ((restL l).length + 1) 0 (by omega) (by omega))
end Go.Proofs.YteadghhmoggjnaaB
end
section
namespace Go.Proofs.Yteadghhmoggjnaa.Q
open Go.RowKit YteadghhmoggjnaaW.PrintWords YteadghhmoggjnaaW.PrintLast YteadghhmoggjnaaW.PrintMore
attribute [local go_sem] max2_int max_two
set_option maxHeartbeats 8000000
set_option maxRecDepth 100000
def fill_blank.f (a0_0 : Int) (a0_1 : Int) (a0_2 : Int) (a0_3 : Int) (a0_4 : ByteArray) (a0_5 : ByteArray) (l0_6 : List Int) : Option (Bool) := if a0_0 = 1 then (some (a0_4.toList != ([126] : List UInt8))) else (some false)
theorem fill_blank.calls (a0_0 : Int) (a0_1 : Int) (a0_2 : Int) (a0_3 : Int) (a0_4 : ByteArray) (a0_5 : ByteArray) (A0_6 : Option Addr) (c0_6 : Nat) (l0_6 : List Int) (r : Bool) (w : World) (hr0_6 : Kd.C (Kd.int .i64) w A0_6 l0_6.length l0_6) (hc0_6 : l0_6.length ≤ c0_6) (h : fill_blank.f a0_0 a0_1 a0_2 a0_3 a0_4 a0_5 l0_6 = some r) :
  Calls Try.prog 66 #[.agg #[.int .i64 a0_0, .int .i64 a0_1, .int .i64 a0_2, .int .i64 a0_3, .string a0_4, .string a0_5, .slice A0_6 l0_6.length c0_6]] w fun e w' => e = .returned (.bool r) ∧ Below w.heap.size w w' := by
 have hu33 := Try.underlying33
 have HR0_6 := o_ hr0_6
 have HC0_6 := o_ hc0_6
 clear hr0_6 hc0_6
 have HB := o_ (Below.refl w.heap.size w)
 have H : (if a0_0 = 1 then (some (a0_4.toList != ([126] : List UInt8))) else (some false)) = some r := h
 clear h
 by_cases c2 : a0_0 = 1
 rotate_left
 ·rw [if_neg c2] at H
  have c2b0 : (a0_0 == 1) = false := beq_eq_false_iff_ne.mpr c2
  have c2b1 : (a0_0 != 1) = true := bne_iff_ne.mpr c2
  obtain rfl := Option.some.inj H
  go_enter Try.func66, Try.ntmps66
  go_wp2_with (first | ((with_reducible refine gate_dst (N := 1) rfl ?_); refine box_event ?hg (N := 1) ?hd (cs := #[.int .i64 a0_0, .int .i64 a0_1, .int .i64 a0_2, .int .i64 a0_3, .string a0_4, .string a0_5, .slice A0_6 l0_6.length c0_6]) (t := 33) ?hr ?_; (case hd => rfl); (case hg => rfl); (case hr => first | (go_simp; done) | (go_simp; rfl)); intro gb146 hg w5 hbox hb; have n0_ := o_ (below_step (bl HB) hb); have n1_ := o_ (hbox); have n2_ := o_ ((by rw [hg]; exact (below_size (bl HB)) : w.heap.size ≤ gb146)); have n3_ := o_ ((by rw [hg]; exact (below_size (bl HB)) : w.heap.size ≤ gb146)); clear HB; have HB := n0_; have BK146 := n1_; have GW146 := n2_; have GE146 := n3_; clear n0_ n1_ n2_ n3_; clear hb hbox hg; have z6 := box7 BK146))
  go_ret
  exact ⟨by first | rfl | (simp [*] <;> rfl), bl HB⟩
 rw [if_pos c2] at H
 have c2b0 : (a0_0 == 1) = true := beq_iff_eq.mpr c2
 have c2b1 : (a0_0 != 1) = false := bne_eq_false_iff_eq.mpr c2
 clear c2
 obtain rfl := Option.some.inj H
 go_enter Try.func66, Try.ntmps66
 go_wp2_with (first | ((with_reducible refine gate_dst (N := 1) rfl ?_); refine box_event ?hg (N := 1) ?hd (cs := #[.int .i64 a0_0, .int .i64 a0_1, .int .i64 a0_2, .int .i64 a0_3, .string a0_4, .string a0_5, .slice A0_6 l0_6.length c0_6]) (t := 33) ?hr ?_; (case hd => rfl); (case hg => rfl); (case hr => first | (go_simp; done) | (go_simp; rfl)); intro gb146 hg w3 hbox hb; have n0_ := o_ (below_step (bl HB) hb); have n1_ := o_ (hbox); have n2_ := o_ ((by rw [hg]; exact (below_size (bl HB)) : w.heap.size ≤ gb146)); have n3_ := o_ ((by rw [hg]; exact (below_size (bl HB)) : w.heap.size ≤ gb146)); clear HB; have HB := n0_; have BK146 := n1_; have GW146 := n2_; have GE146 := n3_; clear n0_ n1_ n2_ n3_; clear hb hbox hg; have z4 := box7 BK146))
 go_ret
 exact ⟨by first | rfl | (simp [*] <;> rfl), bl HB⟩
def fill_rest.l0 : Nat → List (S33) → Option ((List (S33)))
 | 0, _ => none
 | k + 1, x0 => if (x0.length : Int) > 0 then (if 0 < (x0.length : Int) then ((fill_blank.f ((rT x0 0).f0) ((rT x0 0).f1) ((rT x0 0).f2) ((rT x0 0).f3) ((rT x0 0).f4) ((rT x0 0).f5) ((rT x0 0).f6)).bind fun t148 => (if t148 = true then (if 1 ≤ (x0.length : Int) then (fill_rest.l0 k (x0.drop 1)) else (none)) else (some x0))) else (none)) else (some x0)
def fill_rest.f (k : Nat) (l0 : List (S33)) : Option ((List (S33))) := fill_rest.l0 k l0
theorem fill_rest.mono_l : ∀ k, (∀ y0, LeO (fill_rest.l0 k y0) (fill_rest.l0 (k + 1) y0))
 | 0 => fun _ r h => by simp [fill_rest.l0] at h
 | k + 1 => by
  have ih0 := fill_rest.mono_l k
  ·intro y0
   unfold fill_rest.l0
   repeat' first
   | (with_reducible exact ih0 _)
   | (with_reducible exact LeO.refl _)
   | (with_reducible exact LeO.none _)
   | (with_reducible refine LeO.ite ?_ ?_)
   | (with_reducible refine LeO.bind ?_ (fun _ => ?_))
   | exact ih0 _
   | exact LeO.none _
   | refine LeO.ite ?_ ?_
   | refine LeO.bind ?_ (fun _ => ?_)
theorem fill_rest.mono : ∀ a0 k, LeO (fill_rest.f k a0) (fill_rest.f (k + 1) a0) := by
 intro a0 k
 have ih0 := fill_rest.mono_l k
 unfold fill_rest.f
 repeat' first
   | (with_reducible exact ih0 _)
   | (with_reducible exact LeO.refl _)
   | (with_reducible exact LeO.none _)
   | (with_reducible refine LeO.ite ?_ ?_)
   | (with_reducible refine LeO.bind ?_ (fun _ => ?_))
   | exact ih0 _
   | exact LeO.none _
   | refine LeO.ite ?_ ?_
   | refine LeO.bind ?_ (fun _ => ?_)
theorem fill_rest.calls (k : Nat) (P0_ : Nat → Prop) (A0 : Option Addr) (c0 : Nat) (l0 : List (S33)) (r : List (S33)) (w : World) (hs0 : Kd.V k33 33 w w.heap.size (fun k_ => P0_ k_) (.slice A0 l0.length c0) l0) (h : fill_rest.f k l0 = some r) :
  Calls Try.prog 40 #[.slice A0 l0.length c0] w fun e w' => ∃ v0_ : Value, e = .returned (v0_) ∧ Kd.V k33 33 w' w.heap.size (fun k_ => (P0_ k_ ∨ w.heap.size ≤ k_)) v0_ r ∧ Below w.heap.size w w' := by
 have hu33 := Try.underlying33
 have HO0 := o_ (show Kd.V k33 33 w w.heap.size (fun k_ => (P0_ k_ ∨ w.heap.size ≤ k_)) (.slice A0 l0.length c0) l0 from Kd.V_mono hs0 (fun k_ hk => .inl hk))
 have HB := o_ (Below.refl w.heap.size w)
 have H : (fill_rest.l0 k l0) = some r := h
 clear h
 have H' := o_ H
 clear H
 go_enter Try.func40, Try.ntmps40
 go_wp2
 go_loopg [0] k (fun kq v0 w' => ∃ (x0_1 : List (S33)), As (fill_rest.l0 kq x0_1 = some r) ∧ As (kq ≤ k) ∧ As (Kd.V k33 33 w' w.heap.size (fun k_ => (P0_ k_ ∨ w.heap.size ≤ k_)) v0 x0_1) ∧ As (Below w.heap.size w w'))
 case atStart => exact ⟨(l0), H', ⟨Nat.le_refl _⟩, ⟨Vu HO0⟩, ⟨bl HB⟩⟩
 case round =>
  clear H'
  obtain ⟨x0_1, HA, HK1, HO_0, HB⟩ := hrel
  cases gk with
  | zero => exact absurd HA.out (by simp [fill_rest.l0])
  | succ k1 =>
   have H := HA.out
   clear HA
   simp only [fill_rest.l0] at H
   by_cases c2 : (x0_1.length : Int) > 0
   rotate_left
   ·rw [if_neg c2] at H
    have c2b0 : decide (0 < (x0_1.length : Int)) = false := decide_eq_false c2
    have c2b1 : decide (0 < x0_1.length) = false := decide_eq_false (by omega)
    clear c2
    obtain rfl := Option.some.inj H
    obtain ⟨Ao12, co12, eo12⟩ := Kd.V_slice HO_0.out
    subst eo12
    go_wp2
    go_ret
    exact ⟨_, by first | rfl | (simp [*] <;> rfl), Vu HO_0, bl HB⟩
   rw [if_pos c2] at H
   have c2b0 : decide (0 < (x0_1.length : Int)) = true := decide_eq_true c2
   have c2b1 : decide (0 < x0_1.length) = true := decide_eq_true (by omega)
   clear c2
   by_cases c3 : 0 < (x0_1.length : Int)
   rotate_left
   ·rw [if_neg c3] at H
    exact absurd H (by simp)
   rw [if_pos c3] at H
   have c3b0 := decide_eq_true c3
   have c3b1 : decide (0 < x0_1.length) = true := decide_eq_true (by omega)
   clear c3
   obtain ⟨t148, A40, H⟩ := qb H
   try dsimp only at H
   have A4 := o_ A40
   clear A40
   by_cases c5 : t148 = true
   rotate_left
   ·replace c5 := Bool.eq_false_iff.mpr c5
    subst c5
    have H1 : (some x0_1) = some r := by rw [if_neg (show ¬ (false = true) by decide)] at H; exact H
    clear H
    have H := H1
    clear H1
    obtain rfl := Option.some.inj H
    obtain ⟨Ao10, co10, eo10⟩ := Kd.V_slice HO_0.out
    subst eo10
    have p147 : 0 ≤ (0 : Int) := (by omega)
    have q147 : 0 < (x0_1.length : Int) := oa
    obtain ⟨ad147, A147_6, c147_6, e147, hx147_0, hx147_1, hx147_2, hx147_3, hx147_4, hx147_5, hx147_6, hl147_6, hi147_6⟩ := aT (Kd.V_reads' HO_0.out).2.2 0 p147 q147
    cases e147
    obtain ⟨ce147, hce147, hMe147, hcc147⟩ := Kd.V_get HO_0.out z33 0 p147 (by first | exact q147 | exact oa | (have e_ := (Kd.V_reads' HO_0.out).1; omega))
    obtain ⟨ua147_6, uc147_6, rfl, ul147_6, ge147_6⟩ := k33_openF hMe147
    have hv147_6 := hcc147 6 _ rfl
    rw [add_field _ _ 6 (by omega)] at hv147_6
    replace hv147_6 := Option.some.inj (hv147_6.symm.trans hx147_6)
    injection hv147_6 with hva_ hvn_ hvc_
    rw [hva_] at ge147_6
    rw [hvc_] at ul147_6
    have HL147_6 := o_ (show Kd.V (Kd.int .i64) 3 _ w.heap.size _ _ ((rT x0_1 0).f6) from Kd.V_mk ul147_6 ge147_6)
    clear hva_ hvn_ hvc_ ge147_6 ul147_6
    clear hcc147 hce147
    have qi147 : (0 < x0_1.length) = True := eq_true (by omega)
    (try rw [show ((0 : Int)).toNat = 0 from rfl] at hx147_0)
    (try rw [show 0 * 7 = 0 from rfl] at hx147_0)
    (try rw [Addr.add_zero'] at hx147_0)
    (try rw [show ((0 : Int)).toNat = 0 from rfl] at hx147_1)
    (try rw [show 0 * 7 = 0 from rfl] at hx147_1)
    (try rw [Addr.add_zero'] at hx147_1)
    (try rw [show ((0 : Int)).toNat = 0 from rfl] at hx147_2)
    (try rw [show 0 * 7 = 0 from rfl] at hx147_2)
    (try rw [Addr.add_zero'] at hx147_2)
    (try rw [show ((0 : Int)).toNat = 0 from rfl] at hx147_3)
    (try rw [show 0 * 7 = 0 from rfl] at hx147_3)
    (try rw [Addr.add_zero'] at hx147_3)
    (try rw [show ((0 : Int)).toNat = 0 from rfl] at hx147_4)
    (try rw [show 0 * 7 = 0 from rfl] at hx147_4)
    (try rw [Addr.add_zero'] at hx147_4)
    (try rw [show ((0 : Int)).toNat = 0 from rfl] at hx147_5)
    (try rw [show 0 * 7 = 0 from rfl] at hx147_5)
    (try rw [Addr.add_zero'] at hx147_5)
    (try rw [show ((0 : Int)).toNat = 0 from rfl] at hx147_6)
    (try rw [show 0 * 7 = 0 from rfl] at hx147_6)
    (try rw [Addr.add_zero'] at hx147_6)
    have HR147_6 := o_ hi147_6
    have HC147_6 := o_ hl147_6
    clear hi147_6 hl147_6
    replace p147 := eq_true p147
    replace q147 := eq_true q147
    go_wp2_with (first | (go_at_call 66; (with_reducible refine (fill_blank.calls ((rT x0_1 0).f0) ((rT x0_1 0).f1) ((rT x0_1 0).f2) ((rT x0_1 0).f3) ((rT x0_1 0).f4) ((rT x0_1 0).f5) _ _ ((rT x0_1 0).f6) false _ ?side1 ?side2 A4.out).mono ?_); (case side1 => repeat (first | exact (by repeat (first | (with_reducible exact HR147_6.out) | (with_reducible refine Kd.C_alloc ?_ _) | (with_reducible refine Kd.C_drewN ?_ _) | (with_reducible refine Kd.C_drew ?_) | exact HR147_6.out)) | (with_reducible refine Kd.C_alloc ?_ _) | (with_reducible refine Kd.C_drewN ?_ _) | (with_reducible refine Kd.C_drew ?_))); (case side2 => exact HC147_6.out); rintro e w11 ⟨rfl, hb⟩; have n0_ := o_ (Kd.V_below (Vu HO_0) hb); have n1_ := o_ (Kd.V_below (Vu HL147_6) hb); have n2_ := o_ (Kd.C_below (by repeat (first | (with_reducible exact HR147_6.out) | (with_reducible refine Kd.C_alloc ?_ _) | (with_reducible refine Kd.C_drewN ?_ _) | (with_reducible refine Kd.C_drew ?_) | exact HR147_6.out)) hb); have n3_ := o_ (below_step (bl HB) hb); clear HO_0; clear HL147_6; clear HR147_6; clear HB; have HO_0 := n0_; have HL147_6 := n1_; have HR147_6 := n2_; have HB := n3_; clear n0_ n1_ n2_ n3_; (try clear hb)))
    go_ret
    exact ⟨_, by first | rfl | (simp [*] <;> rfl), Vu HO_0, bl HB⟩
   subst c5
   have H1 : (if 1 ≤ (x0_1.length : Int) then (fill_rest.l0 k1 (x0_1.drop 1)) else (none)) = some r := by rw [if_pos rfl] at H; exact H
   clear H
   have H := H1
   clear H1
   by_cases c6 : 1 ≤ (x0_1.length : Int)
   rotate_left
   ·rw [if_neg c6] at H
    exact absurd H (by simp)
   rw [if_pos c6] at H
   have c6b0 := eq_true c6
   have c6b1 := decide_eq_true c6
   clear c6
   obtain ⟨y149, hy149⟩ : ∃ y_ : List (S33), y_ = (x0_1.drop 1) := ⟨_, rfl⟩
   replace H : (fill_rest.l0 k1 y149) = some r := by first | (rw [hy149]; with_reducible exact H) | (have H2_ := (Option.bind_some _ _).symm.trans H; rw [hy149]; with_reducible exact H2_) | (have H2_ := (Option.bind_some _ _).symm.trans H; with_reducible exact H2_) | with_reducible exact H | (rw [hy149]; exact H) | exact H
   have Ny149 := o_ hy149
   clear hy149
   have H' := o_ H
   clear H
   obtain ⟨Ao7, co7, eo7⟩ := Kd.V_slice HO_0.out
   subst eo7
   have p147 : 0 ≤ (0 : Int) := (by omega)
   have q147 : 0 < (x0_1.length : Int) := oa
   obtain ⟨ad147, A147_6, c147_6, e147, hx147_0, hx147_1, hx147_2, hx147_3, hx147_4, hx147_5, hx147_6, hl147_6, hi147_6⟩ := aT (Kd.V_reads' HO_0.out).2.2 0 p147 q147
   cases e147
   obtain ⟨ce147, hce147, hMe147, hcc147⟩ := Kd.V_get HO_0.out z33 0 p147 (by first | exact q147 | exact oa | (have e_ := (Kd.V_reads' HO_0.out).1; omega))
   obtain ⟨ua147_6, uc147_6, rfl, ul147_6, ge147_6⟩ := k33_openF hMe147
   have hv147_6 := hcc147 6 _ rfl
   rw [add_field _ _ 6 (by omega)] at hv147_6
   replace hv147_6 := Option.some.inj (hv147_6.symm.trans hx147_6)
   injection hv147_6 with hva_ hvn_ hvc_
   rw [hva_] at ge147_6
   rw [hvc_] at ul147_6
   have HL147_6 := o_ (show Kd.V (Kd.int .i64) 3 _ w.heap.size _ _ ((rT x0_1 0).f6) from Kd.V_mk ul147_6 ge147_6)
   clear hva_ hvn_ hvc_ ge147_6 ul147_6
   clear hcc147 hce147
   have qi147 : (0 < x0_1.length) = True := eq_true (by omega)
   (try rw [show ((0 : Int)).toNat = 0 from rfl] at hx147_0)
   (try rw [show 0 * 7 = 0 from rfl] at hx147_0)
   (try rw [Addr.add_zero'] at hx147_0)
   (try rw [show ((0 : Int)).toNat = 0 from rfl] at hx147_1)
   (try rw [show 0 * 7 = 0 from rfl] at hx147_1)
   (try rw [Addr.add_zero'] at hx147_1)
   (try rw [show ((0 : Int)).toNat = 0 from rfl] at hx147_2)
   (try rw [show 0 * 7 = 0 from rfl] at hx147_2)
   (try rw [Addr.add_zero'] at hx147_2)
   (try rw [show ((0 : Int)).toNat = 0 from rfl] at hx147_3)
   (try rw [show 0 * 7 = 0 from rfl] at hx147_3)
   (try rw [Addr.add_zero'] at hx147_3)
   (try rw [show ((0 : Int)).toNat = 0 from rfl] at hx147_4)
   (try rw [show 0 * 7 = 0 from rfl] at hx147_4)
   (try rw [Addr.add_zero'] at hx147_4)
   (try rw [show ((0 : Int)).toNat = 0 from rfl] at hx147_5)
   (try rw [show 0 * 7 = 0 from rfl] at hx147_5)
   (try rw [Addr.add_zero'] at hx147_5)
   (try rw [show ((0 : Int)).toNat = 0 from rfl] at hx147_6)
   (try rw [show 0 * 7 = 0 from rfl] at hx147_6)
   (try rw [Addr.add_zero'] at hx147_6)
   have HR147_6 := o_ hi147_6
   have HC147_6 := o_ hl147_6
   clear hi147_6 hl147_6
   replace p147 := eq_true p147
   replace q147 := eq_true q147
   go_wp2_with (first | (go_at_call 66; (with_reducible refine (fill_blank.calls ((rT x0_1 0).f0) ((rT x0_1 0).f1) ((rT x0_1 0).f2) ((rT x0_1 0).f3) ((rT x0_1 0).f4) ((rT x0_1 0).f5) _ _ ((rT x0_1 0).f6) true _ ?side1 ?side2 A4.out).mono ?_); (case side1 => repeat (first | exact (by repeat (first | (with_reducible exact HR147_6.out) | (with_reducible refine Kd.C_alloc ?_ _) | (with_reducible refine Kd.C_drewN ?_ _) | (with_reducible refine Kd.C_drew ?_) | exact HR147_6.out)) | (with_reducible refine Kd.C_alloc ?_ _) | (with_reducible refine Kd.C_drewN ?_ _) | (with_reducible refine Kd.C_drew ?_))); (case side2 => exact HC147_6.out); rintro e w8 ⟨rfl, hb⟩; have n0_ := o_ (Kd.V_below (Vu HO_0) hb); have n1_ := o_ (Kd.V_below (Vu HL147_6) hb); have n2_ := o_ (Kd.C_below (by repeat (first | (with_reducible exact HR147_6.out) | (with_reducible refine Kd.C_alloc ?_ _) | (with_reducible refine Kd.C_drewN ?_ _) | (with_reducible refine Kd.C_drew ?_) | exact HR147_6.out)) hb); have n3_ := o_ (below_step (bl HB) hb); clear HO_0; clear HL147_6; clear HR147_6; clear HB; have HO_0 := n0_; have HL147_6 := n1_; have HR147_6 := n2_; have HB := n3_; clear n0_ n1_ n2_ n3_; (try clear hb); have q9 : (1 : Int) ≤ ((x0_1.length : Int) : Int) := oa; obtain ⟨i09, hi09, _, hsz9, _⟩ := info_parts info33; have hroom9 : x0_1.length ≤ co7 := (Kd.V_reads' HO_0.out).2.1; have hC9 : Kd.F k33 _ _ (some ad147) x0_1.length x0_1 := (Kd.V_at (base := w.heap.size) HO_0.out).2.2; have hcut9 := cut_from (P := Try.prog) 23 33 .i64 Try.underlying23 hi09 7 hsz9 (some ad147) x0_1.length co7 1 (by omega) q9; have hr9 := Kd.F_cut (m := (1 : Int).toNat) (c := co7) hC9 (by omega) hroom9; obtain ⟨A9, hA9⟩ : ∃ A1, A1 = (if co7 = (1 : Int).toNat then (some ad147) else ((some ad147) : Option Addr).map (·.add ((1 : Int).toNat * 7))) := ⟨_, rfl⟩; obtain ⟨c9, hc9⟩ : ∃ c1, c1 = co7 - (1 : Int).toNat := ⟨_, rfl⟩; have hy9 : y149.length = x0_1.length - (1 : Int).toNat := (by rw [Ny149.out, List.length_drop] <;> omega); rw [show (x0_1).drop (1 : Int).toNat = y149 from Ny149.out.symm] at hr9; replace hr9 : Kd.F k33 _ _ A9 y149.length y149 := (by rw [hA9]; exact hr9); rw [← hy9, ← hA9, ← hc9] at hcut9; have HO153 := o_ (show Kd.V k33 33 _ w.heap.size _ (.slice A9 y149.length c9) y149 from Kd.V_mk (by rw [hy9, hc9]; exact Nat.sub_le_sub_right hroom9 _) hr9); have HC153 := o_ (show y149.length ≤ c9 from by rw [hy9, hc9]; exact Nat.sub_le_sub_right hroom9 _); clear hr9 hC9 hroom9 hi09 hsz9 hc9; have KY9 := o_ hy9; have KA9 := o_ hA9; clear hy9 hA9; replace q9 := eq_true q9))
   go_roundg k1
   case measure => have := HK1.out; omega
   case rel => exact ⟨(y149), H', ⟨by have := HK1.out; omega⟩, ⟨Vu HO153⟩, ⟨bl HB⟩⟩
end Go.Proofs.Yteadghhmoggjnaa.Q
end
section
namespace Go.Proofs.Yteadghhmoggjnaa.Q
open Go.RowKit YteadghhmoggjnaaW.PrintWords YteadghhmoggjnaaW.PrintLast YteadghhmoggjnaaW.PrintMore
attribute [local go_sem] max2_int max_two
def fill_next.f (l0 : List (S33)) : Option (Int) := some ((l0.findIdx Go.Proofs.YteadghhmoggjnaaB.blankB : Nat) : Int)
theorem fill_next.calls (A0 : Option Addr) (c0 : Nat) (l0 : List (S33)) (r : Int) (w : World) (hr0 : Kd.C k33 w A0 l0.length l0) (hc0 : l0.length ≤ c0) (h : fill_next.f l0 = some r) :
  Calls Try.prog 62 #[.slice A0 l0.length c0] w fun e w' => e = .returned (.int .i64 r) ∧ Below w.heap.size w w' := by
 obtain rfl := Option.some.inj h
 exact Go.Proofs.YteadghhmoggjnaaB.next_any A0 _ c0 l0 (fun _ => True) w (Go.Proofs.YteadghhmoggjnaaB.rd_boxes hr0) hr0.2.1 (Go.Proofs.YteadghhmoggjnaaB.lens_of_C hr0)
end Go.Proofs.Yteadghhmoggjnaa.Q
end
section
namespace Go.Proofs.Yteadghhmoggjnaa.Q
open Go.RowKit YteadghhmoggjnaaW.PrintWords YteadghhmoggjnaaW.PrintLast YteadghhmoggjnaaW.PrintMore
open Go.Proofs.YteadghhmoggjnaaB (C_boxes rd_boxes boxK rest_any SlRd Kind.Rd restL blankB okL okL_len okL_max okL_small okL_sub restL_le restL_mem restL_head)
attribute [local go_sem] max2_int max_two
def wordsGo : Nat → List S33 → List (List S33)
 | 0, _ => []
 | f + 1, R => match R with
  | [] => []
  | x :: r => (x :: r).take ((x :: r).findIdx blankB) :: wordsGo f (restL ((x :: r).drop ((x :: r).findIdx blankB)))
def wordsL (l : List S33) : List (List S33) := wordsGo (l.length + 1) (restL l)
theorem fblank_f (x : S33) : fill_blank.f x.f0 x.f1 x.f2 x.f3 x.f4 x.f5 x.f6 = some (blankB x) := by
 unfold fill_blank.f blankB
 by_cases h : x.f0 = 1
 ·rw [if_pos h, h]; rfl
 ·rw [if_neg h, beq_eq_false_iff_ne.2 h]; rfl
theorem frest_f : ∀ l : List S33, fill_rest.f (l.length + 1) l = some (restL l)
 | [] => by
  show fill_rest.l0 1 [] = some (restL [])
  rw [fill_rest.l0, if_neg (by simp)]
  rfl
 | x :: r => by
  show fill_rest.l0 ((x :: r).length + 1) (x :: r) = some (restL (x :: r))
  rw [fill_rest.l0, if_pos (by simp), if_pos (by simp)]
  have e : rT (x :: r) 0 = x := rfl
  rw [e, fblank_f, Option.bind_some]
  unfold restL
  rw [List.dropWhile_cons]
  by_cases hb : blankB x = true
  ·rw [if_pos hb, if_pos hb, if_pos (by rw [List.length_cons]; omega)]
   exact frest_f r
  ·rw [if_neg hb, if_neg hb]
theorem findIdx_pos {l : List S33} (hl : 0 < l.length) (h : ∀ x, l[0]? = some x → blankB x = false) : 0 < l.findIdx blankB := by
 cases l with
 | nil => simp at hl
 | cons x r =>
  have hx := h x rfl
  rw [List.findIdx_cons, hx]
  simp
set_option maxHeartbeats 8000000 in
set_option maxRecDepth 100000 in
theorem Words_any (A0 : Option Addr) (c0 : Nat) (l0 : List (S33)) (w : World) (hr0 : Kd.C k33 w A0 l0.length l0) (hc0 : l0.length ≤ c0) (hok : okL l0 = true) :
  Calls Try.prog 50 #[.slice A0 l0.length c0] w fun e w' => ∃ v0_ : Value, e = .returned (v0_) ∧ Kd.R (Kd.slice 33 k33) 23 w' w.heap.size (fun _ => True) v0_ (wordsL l0) ∧ Below w.heap.size w w' := by
 have HR0 := o_ hr0
 have HC0 := o_ hc0
 have HOK := o_ hok
 clear hr0 hc0 hok
 have HRD := o_ (show boxK.Rd w (fun k => k < w.heap.size) A0 l0.length l0 from (rd_boxes HR0.out).bound.weaken (fun _ hk => hk.2))
 have HB := o_ (Below.refl w.heap.size w)
 have hwl : wordsL l0 = wordsGo (l0.length + 1) (restL l0) := rfl
 generalize wordsL l0 = ws at hwl ⊢
 have HWL := o_ hwl
 clear hwl
 go_enter Try.func50, Try.ntmps50
 have hmax0 := okL_len HOK.out
 have hmax1 : l0.length ≤ 9223372036854775807 := Nat.le_trans hmax0 (by decide)
 have HMX0 := o_ hmax1
 clear hmax0 hmax1
 go_wp2_with (go_at_call 40; refine (rest_any A0 l0.length c0 l0 (fun k => k < w.heap.size) w HRD.out HC0.out HMX0.out (okL_max HOK.out)).mono ?_; rintro e w1 ⟨v1, rfl, ho0, hb⟩; have n0_ := o_ ho0; have n1_ := o_ hb; clear HB ho0 hb; have HO1 := n0_; have HB := n1_; clear n0_ n1_; obtain ⟨A1, c1, e1, hc1, hrd1⟩ := HO1.out; subst e1; have HC1 := o_ hc1; have HRD1 := o_ (hrd1.step (fun k hk _ => (HB.out.block k hk).symm)); clear hc1 hrd1)
 go_loopw [0, 3] (fun t0 t3 wr => ∃ (R : List S33) (acc : List (List S33)) (A' : Option Addr) (c' fu : Nat), t0 = .slice A' R.length c' ∧ As (R.length ≤ c') ∧ As (boxK.Rd w (fun k => k < w.heap.size) A' R.length R) ∧ As (Kd.R (Kd.slice 33 k33) 23 wr w.heap.size (fun _ => True) t3 acc) ∧ As (Below w.heap.size w wr) ∧ As (okL R = true) ∧ As (∀ x, R[0]? = some x → blankB x = false) ∧ As (R.length < fu) ∧ As (acc ++ wordsGo fu R = ws) ∧ As (acc.length + R.length ≤ l0.length)) (fun t0 _ _ => match t0 with | .slice _ n _ => n | _ => 0)
 case atStart =>
  have hrl := restL_le l0
  exact ⟨restL l0, [], A1, c1, l0.length + 1, rfl, HC1, HRD1, ⟨Kd.R_nil _ _ _ _ _⟩, HB, ⟨okL_sub HOK.out hrl (fun x hx => restL_mem hx)⟩, ⟨fun x hx => restL_head hx⟩, ⟨by omega⟩, ⟨by rw [List.nil_append]; exact HWL.out.symm⟩, ⟨by rw [List.length_nil]; omega⟩⟩
 case round =>
  obtain ⟨R, acc, A', c', fu, rfl, HC, RD, HO_3, HB2, HOK2, HH, HF, HACC, HLEN⟩ := hrel
  clear HB HO1
  have HB := HB2
  clear HB2
  by_cases h0 : R.length = 0
  ·have hR : R = [] := List.eq_nil_of_length_eq_zero h0
   subst hR
   clear h0
   go_wp2_with fail
   go_ret
   have hacc : acc = ws := by
    have h1 := HACC.out
    obtain ⟨f, rfl⟩ : ∃ f, fu = f + 1 := ⟨fu - 1, by have := HF.out; omega⟩
    rw [show wordsGo (f + 1) [] = [] from rfl, List.append_nil] at h1
    exact h1
   rw [← hacc]
   exact ⟨_, rfl, HO_3.out, HB.out⟩
  ·have hmx : R.length ≤ 9223372036854775807 := Nat.le_trans (okL_len HOK2.out) (by decide)
   have HR := o_ (C_boxes hmx (okL_max HOK2.out) (RD.out.below HB.out))
   have hpos := findIdx_pos (by omega) HH.out
   have hle := List.findIdx_le_length (p := blankB) (xs := R)
   obtain ⟨n, hn⟩ : ∃ n, n = R.findIdx blankB := ⟨_, rfl⟩
   rw [← hn] at hpos hle
   have HN := o_ hn
   clear hn
   have HNX := o_ (show fill_next.f R = some ((n : Nat) : Int) from by rw [HN.out]; rfl)
   have hm0 : decide (0 < (R.length : Int)) = true := decide_eq_true (by omega)
   have hm1 : decide (0 < R.length) = true := decide_eq_true (by omega)
   obtain ⟨i0, hi0, _, hsz0, _⟩ := info_parts info33
   have hy : (R.take n).length = n := by rw [List.length_take]; omega
   obtain ⟨y, hyy⟩ : ∃ y, y = R.take n := ⟨_, rfl⟩
   have hC3 := Kd.C_take (m := n) HR.out hle
   rw [← hyy] at hC3 hy
   obtain ⟨z, hzz⟩ : ∃ z, z = R.drop n := ⟨_, rfl⟩
   have hokz : okL z = true := okL_sub HOK2.out (by rw [hzz, List.length_drop]; omega) (fun x hx => by rw [hzz] at hx; exact List.mem_of_mem_drop hx)
   have hoky : okL y = true := okL_sub HOK2.out (by omega) (fun x hx => by rw [hyy] at hx; exact List.mem_of_mem_take hx)
   have HY := o_ hyy
   have HZ := o_ hzz
   have HOW := o_ (show fill_own.f y = some y from if_pos hoky)
   have HYL := o_ hy
   have HCY := o_ hC3
   have HOZ := o_ hokz
   have q12 : ((n : Nat) : Int) ≤ ((R.length : Int) : Int) := by omega
   have hcut12 := cut_to (P := Try.prog) 23 33 .i64 Try.underlying23 hi0 A' R.length c' (n : Int) (by omega) q12 HC.out
   have hcut13 := cut_from (P := Try.prog) 23 33 .i64 Try.underlying23 hi0 7 hsz0 A' R.length c' (n : Int) (by omega) q12
   rw [Int.toNat_natCast] at hcut12 hcut13
   obtain ⟨A9, hA9⟩ : ∃ A1, A1 = (if c' = n then A' else (A' : Option Addr).map (·.add (n * 7))) := ⟨_, rfl⟩
   obtain ⟨c9, hc9⟩ : ∃ c1, c1 = c' - n := ⟨_, rfl⟩
   have hzl : z.length = R.length - n := by rw [hzz, List.length_drop]
   rw [← hA9, ← hc9, ← hzl] at hcut13
   have hrdz := RD.out.cut (k := n) (m := R.length) (c := c') hle (Nat.le_refl _) HC.out
   rw [List.take_of_length_le (Nat.le_refl _), ← hzz, ← hzl] at hrdz
   have RDZ := o_ (show boxK.Rd w (fun k => k < w.heap.size) A9 z.length z from by rw [hA9]; exact hrdz)
   clear hrdz
   have HA9 := o_ hA9
   have HC9 := o_ (show z.length ≤ c9 from by rw [hzl, hc9]; exact Nat.sub_le_sub_right HC.out _)
   have HZL := o_ hzl
   have HPOS := o_ hpos
   have hLE := o_ hle
   have hH0 := o_ h0
   have hMX := o_ hmx
   have hcut14 : ∀ W : World, (Instr.slice 23 (.slice A' R.length c') none (some (.int .i64 (n : Int))) none).run Try.prog W = .ok (.slice A' y.length c') W := by intro W; rw [hcut12 W, hy]
   have HLM := o_ (show acc.length < 5864062014805 from by have := HLEN.out; have := okL_len HOK.out; omega)
   clear hcut12 hy hzl hc9 hA9 hyy hzz hC3 hokz hoky hsz0 hi0 q12 hpos hle h0 hmx
   go_wp2_with (first | (go_at_call 62; (with_reducible refine (fill_next.calls A' c' R ((n : Nat) : Int) _ HR.out HC.out HNX.out).mono ?_); rintro e w2 ⟨rfl, hb⟩; have n0_ := o_ (Kd.R_below HO_3.out hb); have n1_ := o_ (Kd.C_below HCY.out hb); have n3_ := o_ (below_step HB.out hb); clear HO_3 HB HCY HR hb HNX; have HO_3 := n0_; have HCY := n1_; have HB := n3_; clear n0_ n1_ n3_) |
    ((with_reducible refine gate_callee (f := 32) rfl ?_); refine goesL_ (some 18) rfl rfl Try.func32 (by kernel_rfl) rfl #[.slice A' y.length c'] rfl (by (try simp only [List.map_toArray, List.map_cons, List.map_nil]); first | done | rfl) ?_; (with_reducible refine (fill_own.calls A' c' y y _ ?side1 ?side2 HOW.out).mono ?_); (case side1 => exact HCY.out); (case side2 => have := HYL.out; have := HC.out; have := hLE.out; omega); rintro e w13 ⟨v369, rfl, ho0, hb⟩; refine ⟨_, rfl, ?_⟩; have n0_ := o_ (Kd.R_elder' HO_3.out (Kd.S_base ho0) hb); have n1_ := o_ (Kd.S_lower ho0 (below_size HB.out)); have n2_ := o_ (below_step HB.out hb); clear HO_3 HB; have HO_3 := n0_; have HO370 := n1_; have HB := n2_; clear n0_ n1_ n2_; clear hb ho0; obtain ⟨Ao15, co15, eo15⟩ := Kd.S_slice HO370.out; subst eo15) |
    ((with_reducible refine gate_builtin (b := .append) (xs := #[.tmp 14, .tmp 19]) rfl ?_); at_builtin; refine Kd.R_append (Kd.slice 33 k33) (w0 := w) w.heap.size rfl (.tmp 14) (.tmp 19) 43 23 (.slice none 0 0) 24 rfl Try.underlying43 info23 rfl (by decide) (by omega) u3 acc y [.slice Ao15 y.length co15] (fun _ => True) (fun k_ => ((fun _ => True)) k_ ∧ some k_ ≠ (u3 : Value).ownBlock) rfl rfl ?aP (fun _ hk => hk) ?aF ?aO ?aB ?aS ?aL ?_; (case aP => exact Kd.M_row (Kd.R_mono (Kd.R_apart' ((Kd.S_R HO370.out)) (Kd.R_typed HO_3.out) (by decide)) (fun k_ hk => ⟨trivial, hk.2⟩))); (case aB => exact HB.out); (case aF => exact (fun _ _ => trivial)); (case aO => exact (by (with_reducible repeat (first | apply Kd.R_alloc | apply Kd.R_drewN | apply Kd.R_drew)); exact Kd.R_mono HO_3.out (fun _ hk => trivial))); (case aS => exact below_size HB.out); (case aL => have := HLM.out; omega); intro v372 w14 ho hb hg hat; have n0_ := o_ (hb); have n1_ := o_ (ho); clear HB HO_3 HO370; have HB := n0_; have HO373 := n1_; clear n0_ n1_; clear ho hb hat hg) |
    (go_at_call 40; refine (rest_any A9 z.length c9 z (fun k => k < w.heap.size) _ (RDZ.out.below HB.out) HC9.out (Nat.le_trans (okL_len HOZ.out) (by decide)) (okL_max HOZ.out)).mono ?_; rintro e w21 ⟨v21, rfl, ho0, hb⟩; have n0_ := o_ (Kd.R_below HO373.out hb); have n1_ := o_ (below_step HB.out hb); clear HB HO373; have HO373 := n0_; have HB := n1_; clear n0_ n1_ hb; obtain ⟨A21, c21, e21, hc21, hrd21⟩ := ho0; subst e21; have HC21 := o_ hc21; have HRD21 := o_ (hrd21.step (fun k hk _ => (HB.out.block k hk).symm)); clear hc21 hrd21))
   have hrz := restL_le z
   have hzl := HZL.out
   have hp := HPOS.out
   have hl := hLE.out
   refine ⟨⟨restL z, acc ++ [y], A21, c21, fu - 1, rfl, HC21, HRD21, HO373, HB, ⟨okL_sub HOZ.out hrz (fun x hx => restL_mem hx)⟩, ⟨fun x hx => restL_head hx⟩, ⟨by have := HF.out; omega⟩, ⟨?_⟩, ⟨by have := HLEN.out; rw [List.length_append, List.length_singleton]; omega⟩⟩, ?_⟩
   ·have h1 := HACC.out
    obtain ⟨f, rfl⟩ : ∃ f, fu = f + 1 := ⟨fu - 1, by have := HF.out; omega⟩
    rw [← h1, Nat.add_sub_cancel, List.append_assoc]
    congr 1
    rw [HY.out, HZ.out, HN.out]
    cases R with
    | nil => exact absurd rfl hH0.out
    | cons x r => rfl
   ·show (restL z).length < R.length
    omega
end Go.Proofs.Yteadghhmoggjnaa.Q
end
