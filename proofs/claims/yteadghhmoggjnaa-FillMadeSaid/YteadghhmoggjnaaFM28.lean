import Derived.Test.YteadghhmoggjnaaFM24
import Derived.Test.YteadghhmoggjnaaFM25
import Derived.Test.YteadghhmoggjnaaFM26
import Derived.Test.YteadghhmoggjnaaFM27
set_option linter.unusedVariables false
set_option linter.unusedSimpArgs false
section
namespace Go.Proofs.YteadghhmoggjnaaB
open Go.RowKit
open Yteadghhmoggjnaa.Q
open YteadghhmoggjnaaW.PrintWords YteadghhmoggjnaaW.PrintLast YteadghhmoggjnaaW.PrintMore
set_option maxHeartbeats 1600000
theorem valid_width {x : S33} (h : validB x = true) : -1000000 ≤ x.f1 ∧ x.f1 ≤ 1000000 := by
 unfold validB at h
 simp only [Bool.and_eq_true, Bool.not_eq_true', Bool.or_eq_false_iff, decide_eq_false_iff_not] at h
 omega
theorem width_far : ∀ (l : List S33) (a : Int), (∀ x ∈ l, -1000000 ≤ x.f1 ∧ x.f1 ≤ 1000000) → -1000000000000 ≤ a - 1000000 * (l.length : Int) → a + 1000000 * (l.length : Int) ≤ 1000000000000 →
  a - 1000000 * (l.length : Int) ≤ l.foldl widthStep a ∧ l.foldl widthStep a ≤ a + 1000000 * (l.length : Int)
 | [], a, _, _, _ => by simp
 | x :: r, a, hx, h1, h2 => by
  have hx0 := hx x List.mem_cons_self
  rw [List.length_cons] at h1 h2 ⊢
  rw [List.foldl_cons]
  have hs : widthStep a x = a ∨ widthStep a x = a + x.f1 := by
   unfold widthStep
   split
   ·right
    unfold wrap64
    omega
   ·exact .inl rfl
  have ih := width_far r (widthStep a x) (fun y hy => hx y (List.mem_cons_of_mem _ hy)) (by rcases hs with h | h <;> omega) (by rcases hs with h | h <;> omega)
  rcases hs with h | h <;> omega
theorem grown_none (n : Int) (odd : Bool) (k : Nat) (x : S33) (hk : (k : Int) < n) : grown 0 0 n odd k x = x := by
 unfold grown
 rw [decide_eq_false (by omega : ¬ (k : Int) < 0), decide_eq_false (by omega : ¬ n - 0 ≤ (k : Int)), Bool.and_false, Bool.and_false, Bool.or_false, if_neg (by decide), Int.add_zero, Int.add_zero]
theorem spread_none (l : List S33) (g : List Int) (odd : Bool) : ∀ k, k ≤ g.length → spreadTo l g 0 0 odd k = l
 | 0, _ => rfl
 | k + 1, h => by
  unfold spreadTo
  obtain ⟨p, hp⟩ : ∃ p, g[k]? = some p := ⟨_, List.getElem?_eq_getElem (by omega)⟩
  rw [hp, spread_none l g odd k (by omega)]
  show l.modify p.toNat (grown 0 0 (g.length : Int) odd k) = l
  apply List.ext_getElem?
  intro q
  rw [List.getElem?_modify]
  split
  ·cases l[q]? with
   | none => rfl
   | some x => exact congrArg some (grown_none (g.length : Int) odd k x (by omega))
  ·cases l[q]? <;> rfl
theorem ref_adj_l0 (l : List S33) (hl : l.length ≤ 1000000) (hw : ∀ x ∈ l, -1000000 ≤ x.f1 ∧ x.f1 ≤ 1000000) (missing : Int) (hm0 : 0 ≤ missing) (hm1 : missing ≤ 10000000000000) (odd : Bool) :
  ∀ (m i : Nat), i + m = (growL l).length → Ev (fun k => r_Adjust.l0 k odd (spreadTo l (growL l) (missing / (growL l).length) (missing % (growL l).length) odd i) missing (growL l) (i : Int))
   ((spreadTo l (growL l) (missing / (growL l).length) (missing % (growL l).length) odd (growL l).length, 0, 0) : List S33 × Int × Int)
 | 0, i, h => by
  obtain rfl : i = (growL l).length := by omega
  exact Ev.step (fun k => by rw [r_Adjust.l0]) (ev_neg (by omega) (ev_now rfl))
 | m + 1, i, h => by
  have hgl : (growL l).length ≤ l.length := growTo_len l l.length
  obtain ⟨p, hp⟩ : ∃ p, (growL l)[i]? = some p := ⟨_, List.getElem?_eq_getElem (by omega)⟩
  obtain ⟨j, x, rfl, hx, -⟩ := growL_mem (List.mem_of_getElem? hp)
  have hj : j < l.length := (List.getElem?_eq_some_iff.1 hx).1
  have hxb := hw x (List.mem_of_getElem? hx)
  have hsl := spreadTo_len l (growL l) (missing / (growL l).length) (missing % (growL l).length) odd i
  have hy : (spreadTo l (growL l) (missing / (growL l).length) (missing % (growL l).length) odd i)[j]? = some x := by
   rw [(spread_at l (missing / (growL l).length) (missing % (growL l).length) odd i (by omega)).2 j (fun i' hi' e => by have := growL_inj e hp; omega), hx]
  have hstep := spread_step (each := missing / (growL l).length) (more := missing % (growL l).length) (odd := odd) hp hy
  have ih := ref_adj_l0 l hl hw missing hm0 hm1 odd m (i + 1) (by omega)
  rw [hstep] at ih
  have hG : (0 : Int) < ((growL l).length : Int) := by omega
  have hE0 : 0 ≤ missing / ((growL l).length : Int) := Int.ediv_nonneg hm0 (by omega)
  have hE1 : missing / ((growL l).length : Int) ≤ missing := Int.ediv_le_self _ hm0
  have hM0 := Int.emod_nonneg missing (by omega : ((growL l).length : Int) ≠ 0)
  have hM1 := Int.emod_lt_of_pos missing hG
  have hdiv : Int.tdiv missing ((growL l).length : Int) = missing / ((growL l).length : Int) := Int.tdiv_eq_ediv_of_nonneg hm0
  have hmod : Int.tmod missing ((growL l).length : Int) = missing % ((growL l).length : Int) := Int.tmod_eq_emod_of_nonneg hm0
  refine Ev.step (fun k => by rw [r_Adjust.l0]) ?_
  rw [rd_at hp, hdiv, hmod]
  generalize missing / ((growL l).length : Int) = each at *
  generalize missing % ((growL l).length : Int) = more at *
  generalize hS : spreadTo l (growL l) each more odd i = S at *
  refine ev_pos (by omega) (ev_pos (by omega) (ev_pos (by omega) (ev_pos (by omega) (ev_neg (by omega) (ev_some ?_)))))
  rw [rdT_at hy, Int.toNat_natCast, w64_id (n := each) (by omega) (by omega), w64_id (n := x.f1 + each) (by omega) (by omega), w64_id (n := x.f1 + each + 1) (by omega) (by omega), w64_id (n := (i : Int) + 1) (by omega) (by omega), w64_id (n := ((growL l).length : Int) - more) (by omega) (by omega)]
  have hset : rT (S.set j ⟨x.f0, x.f1 + each, x.f2, x.f3, x.f4, x.f5, x.f6⟩) (j : Int) = ⟨x.f0, x.f1 + each, x.f2, x.f3, x.f4, x.f5, x.f6⟩ := rdT_at (by rw [List.getElem?_set, if_pos rfl, if_pos (by omega)])
  rw [hset, List.set_set]
  have e1 : (i : Int) + 1 = ((i + 1 : Nat) : Int) := by omega
  rw [e1]
  unfold grown at ih
  cases odd
  ·refine ev_neg (by decide) ?_
   by_cases c : (i : Int) ≥ ((growL l).length : Int) - more
   ·refine ev_pos c ?_
    rw [decide_eq_true (show ((growL l).length : Int) - more ≤ (i : Int) from c)] at ih
    simpa using ih
   ·refine ev_neg c ?_
    rw [decide_eq_false (show ¬ ((growL l).length : Int) - more ≤ (i : Int) from c)] at ih
    simpa using ih
  ·refine ev_pos rfl ?_
   by_cases c : (i : Int) < more
   ·refine ev_pos c ?_
    rw [decide_eq_true c] at ih
    simpa using ih
   ·refine ev_neg c ?_
    rw [decide_eq_false c] at ih
    simpa using ih
theorem width_ev (l : List S33) (hl : l.length ≤ 1000000) : Ev (fun k => s_Width.f k l) (widthW l) := ⟨l.length + 1, fun k hk => ref_width l (by omega) (by omega)⟩
theorem ref_Adjust_f (l : List S33) (len mode : Int) (odd : Bool) (hl : l.length ≤ 5000) (hf : ∀ x ∈ l, Fit x) : Ev (fun k => r_Adjust.f k l len mode odd) (adjL l len mode odd) := by
 have hbad : ∀ c, Ev (fun k => r_Adjust.j0 k l len mode odd c true) (([], 0, 1) : List S33 × Int × Int) := fun c =>
  Ev.step (fun k => by rw [r_Adjust.j0]) (ev_pos rfl (ev_now rfl))
 have hck := checkI_small hl [len]
 rw [far_one] at hck
 refine Ev.bind (ref_check l (by omega) hf) ?_
 unfold adjL
 cases hv : l.all validB
 ·rw [hv, Bool.false_and, if_neg (by decide : ¬ (false : Bool) = true)] at hck
  rw [if_neg (by decide : ¬ (false : Bool) = true), if_pos (Or.inl hck)]
  exact ev_pos rfl (hbad 1)
 ·rw [hv, Bool.true_and] at hck
  rw [if_pos (rfl : (true : Bool) = true), if_neg (by omega : ¬ 5000 < l.length)]
  refine ev_neg (by decide) ?_
  by_cases h1 : len < 0
  ·rw [decide_eq_true h1, Bool.not_true, Bool.false_and, if_neg (by decide : ¬ (false : Bool) = true)] at hck
   rw [if_pos (Or.inl hck)]
   exact ev_pos h1 (hbad 0)
  ·rw [decide_eq_false h1, Bool.not_false, Bool.true_and] at hck
   refine ev_neg h1 ?_
   by_cases h2 : len > 10000000
   ·rw [decide_eq_true (show 10000000 < len from h2), Bool.not_true, if_neg (by decide : ¬ (false : Bool) = true)] at hck
    rw [if_pos (Or.inl hck)]
    exact ev_pos h2 (hbad 0)
   ·rw [decide_eq_false (show ¬ 10000000 < len from h2), Bool.not_false, if_pos (rfl : (true : Bool) = true)] at hck
    refine ev_neg h2 ?_
    by_cases hmode : mode = 108 ∨ mode = 98 ∨ mode = 114 ∨ mode = 99
    ·rw [if_neg (by rw [hck]; omega), if_neg (by rw [hck]; omega)]
     have hvw : ∀ x ∈ l, -1000000 ≤ x.f1 ∧ x.f1 ≤ 1000000 := fun x hx => valid_width (List.all_eq_true.1 hv x hx)
     have hwb : -1000000 * (l.length : Int) ≤ widthW l ∧ widthW l ≤ 1000000 * (l.length : Int) := by
      have h := width_far l 0 hvw (by omega) (by omega)
      have e : widthW l = l.foldl widthStep 0 := rfl
      rw [e]
      omega
     have hmiss : mx (wrap64 (len - widthW l)) 0 = most0 (len - widthW l) := by
      rw [w64_id (by omega) (by omega)]
      unfold mx most0
      rfl
     have hmb : 0 ≤ most0 (len - widthW l) ∧ most0 (len - widthW l) ≤ 10000000000000 := by unfold most0; split <;> omega
     have hgood : Ev (fun k => r_Adjust.j0 k l len mode odd 0 false) ((if mode = 98 ∧ 0 < len - widthW l ∧ 0 < (growL l).length then spread l (len - widthW l) odd else l, wayOf mode (len - widthW l), 0) : List S33 × Int × Int) := by
      refine Ev.step (fun k => by rw [r_Adjust.j0]) (ev_neg (by decide) (ev_pos rfl ?_))
      refine Ev.bind (ref_own l (by omega) (fun x hx => (hf x hx).1)) (Ev.bind (width_ev l (by omega)) ?_)
      rw [hmiss]
      unfold wayOf
      by_cases m1 : mode = 114
      ·refine ev_pos m1 (ev_now ?_)
       rw [if_neg (by omega), if_pos m1]
      ·refine ev_neg m1 ?_
       by_cases m2 : mode = 99
       ·refine ev_pos m2 (ev_now ?_)
        rw [if_neg (by omega), if_neg m1, if_pos m2, w64_id (by omega) (by omega)]
       ·refine ev_neg m2 ?_
        rw [if_neg m1, if_neg m2]
        by_cases m3 : mode = 98
        ·refine ev_pos m3 (Ev.bind (grow_ev l (by omega)) ?_)
         have hloop := ref_adj_l0 l (by omega) hvw (most0 (len - widthW l)) hmb.1 hmb.2 odd (growL l).length 0 (by omega)
         have hres : spreadTo l (growL l) (most0 (len - widthW l) / (growL l).length) (most0 (len - widthW l) % (growL l).length) odd (growL l).length = (if mode = 98 ∧ 0 < len - widthW l ∧ 0 < (growL l).length then spread l (len - widthW l) odd else l) := by
          by_cases hc : 0 < len - widthW l ∧ 0 < (growL l).length
          ·rw [if_pos ⟨m3, hc⟩]
           have : most0 (len - widthW l) = len - widthW l := by unfold most0; rw [if_neg (by omega)]
           rw [this]
           rfl
          ·rw [if_neg (fun h => hc h.2)]
           by_cases hg : 0 < (growL l).length
           ·have : most0 (len - widthW l) = 0 := by unfold most0; split <;> omega
            rw [this, Int.zero_ediv, Int.zero_emod]
            exact spread_none l (growL l) odd _ (Nat.le_refl _)
           ·have : (growL l).length = 0 := by omega
            rw [this]
            rfl
         rw [← hres]
         exact hloop
        ·refine ev_neg m3 (ev_now ?_)
         rw [if_neg (fun h => m3 h.1)]
     by_cases m0 : mode = 108
     ·exact ev_pos m0 hgood
     ·refine ev_neg m0 ?_
      by_cases m1 : mode = 114
      ·exact ev_pos m1 hgood
      ·refine ev_neg m1 ?_
       by_cases m2 : mode = 99
       ·exact ev_pos m2 hgood
       ·refine ev_neg m2 ?_
        have m3 : mode = 98 := by omega
        have : (mode != 98) = false := by rw [m3]; rfl
        rw [this]
        exact hgood
    ·rw [if_pos (Or.inr hmode)]
     refine ev_neg (by omega) (ev_neg (by omega) (ev_neg (by omega) ?_))
     have : (mode != 98) = true := bne_iff_ne.2 (by omega)
     rw [this]
     exact hbad 0
theorem adj_parts (l : List S33) (len mode : Int) (odd : Bool) (M : Nat) (h6 : ∀ x ∈ l, x.f6.length ≤ M) : (adjL l len mode odd).1.length ≤ l.length ∧ ∀ x ∈ (adjL l len mode odd).1, x.f6.length ≤ M := by
 have hsp : ∀ (each more : Int) (k : Nat), ∀ x ∈ spreadTo l (growL l) each more odd k, x.f6.length ≤ M := by
  intro each more k
  induction k with
  | zero => exact h6
  | succ k ih =>
   intro x hx
   unfold spreadTo at hx
   split at hx
   ·obtain ⟨q, hq, rfl⟩ := List.mem_iff_getElem.1 hx
    rw [List.getElem_modify]
    rw [List.length_modify] at hq
    split
    ·exact ih (spreadTo l (growL l) each more odd k)[q] (List.getElem_mem hq)
    ·exact ih _ (List.getElem_mem hq)
   ·exact ih x hx
 unfold adjL
 split
 ·exact ⟨by simp, fun x hx => by cases hx⟩
 ·split
  ·exact ⟨by simp, fun x hx => by cases hx⟩
  ·dsimp only
   split
   ·exact ⟨by unfold spread; rw [spreadTo_len]; exact Nat.le_refl _, hsp _ _ _⟩
   ·exact ⟨Nat.le_refl _, h6⟩
def ptB : S33 := ⟨5, 0, 0, 0, (⟨#[]⟩ : ByteArray), (⟨#[]⟩ : ByteArray), ([] : List Int)⟩
def ptsTo (row : List S33) (l : List Int) : Nat → List S33
 | 0 => []
 | m + 1 => ptsTo row l m ++ ((if (m : Int) ∈ l then [ptB] else []) ++ (row.drop m).take 1)
theorem one_at {row : List S33} {m : Nat} (h : m < row.length) : (row.drop m).take 1 = [row[m]] := by
 rw [List.drop_eq_getElem_cons h]
 rfl
theorem ptsTo_same (row : List S33) (l l' : List Int) : ∀ m, (∀ i : Nat, i < m → ((i : Int) ∈ l ↔ (i : Int) ∈ l')) → ptsTo row l m = ptsTo row l' m
 | 0, _ => rfl
 | m + 1, h => by
  show ptsTo row l m ++ _ = ptsTo row l' m ++ _
  rw [ptsTo_same row l l' m (fun i hi => h i (by omega))]
  congr 2
  by_cases hm : (m : Int) ∈ l
  ·rw [if_pos hm, if_pos ((h m (by omega)).1 hm)]
  ·rw [if_neg hm, if_neg (fun e => hm ((h m (by omega)).2 e))]
theorem ptsTo_far (row : List S33) (l : List Int) (a : Nat) : ∀ (d : Nat), a + d ≤ row.length → (∀ i : Nat, a ≤ i → ¬ (i : Int) ∈ l) → ptsTo row l (a + d) = ptsTo row l a ++ (row.drop a).take d
 | 0, _, _ => by simp
 | d + 1, h, hn => by
  show ptsTo row l (a + d) ++ ((if ((a + d : Nat) : Int) ∈ l then [ptB] else []) ++ (row.drop (a + d)).take 1) = _
  rw [ptsTo_far row l a d (by omega) hn, if_neg (hn (a + d) (by omega)), List.nil_append, List.append_assoc]
  congr 1
  rw [List.take_add, List.drop_drop]
theorem ptsTo_parts (row : List S33) (l : List Int) : ∀ m, m ≤ row.length → (ptsTo row l m).length ≤ 2 * m ∧ ∀ x ∈ ptsTo row l m, x ∈ row ∨ x = ptB
 | 0, _ => ⟨by simp [ptsTo], fun x hx => by cases hx⟩
 | m + 1, h => by
  obtain ⟨a1, a2⟩ := ptsTo_parts row l m (by omega)
  have hl : ((if (m : Int) ∈ l then [ptB] else []) ++ (row.drop m).take 1).length ≤ 2 := by
   rw [one_at (by omega), List.length_append]
   split <;> simp
  refine ⟨by show (ptsTo row l m ++ _).length ≤ _; rw [List.length_append]; omega, fun x hx => ?_⟩
  rcases List.mem_append.1 (show x ∈ ptsTo row l m ++ _ from hx) with hx | hx
  ·exact a2 x hx
  ·rcases List.mem_append.1 hx with hx | hx
   ·split at hx
    ·exact .inr (List.mem_singleton.1 hx)
    ·cases hx
   ·exact .inl (List.mem_of_mem_drop (List.mem_of_mem_take hx))
def putL (n : Nat) : List Int → Int → List Int
 | [], _ => []
 | a :: r, last => if last < a ∧ a < (n : Int) then a :: putL n r a else putL n r last
theorem putL_above (n : Nat) : ∀ (l : List Int) (last : Int), ∀ a ∈ putL n l last, last < a
 | [], last, a, h => by cases h
 | b :: r, last, a, h => by
  unfold putL at h
  split at h
  ·rcases List.mem_cons.1 h with rfl | h
   ·rename_i c; exact c.1
   ·have := putL_above n r b a h
    rename_i c
    omega
  ·exact putL_above n r last a h
theorem putL_len (n : Nat) : ∀ (l : List Int) (last : Int), (putL n l last).length ≤ l.length
 | [], last => Nat.le_refl _
 | b :: r, last => by
  unfold putL
  split
  ·have := putL_len n r b; simpa using this
  ·have := putL_len n r last; rw [List.length_cons]; omega
theorem putL_sorted (n : Nat) : ∀ (l : List Int) (last : Int), (putL n l last).Pairwise (· < ·)
 | [], last => List.Pairwise.nil
 | b :: r, last => by
  unfold putL
  split
  ·exact List.pairwise_cons.2 ⟨fun a ha => putL_above n r b a ha, putL_sorted n r b⟩
  ·exact putL_sorted n r last
theorem ptsTo_put (row : List S33) (pre : List Int) (q : Nat) (hp : ∀ a ∈ pre, a < (q : Int)) (m : Nat) (h1 : q + 1 ≤ m) (h2 : m ≤ row.length) : (ptsTo row pre q ++ [ptB]) ++ (row.take m).drop q = ptsTo row (pre ++ [(q : Int)]) m := by
 obtain ⟨e, rfl⟩ : ∃ e, m = q + 1 + e := ⟨m - (q + 1), by omega⟩
 rw [ptsTo_far row (pre ++ [(q : Int)]) (q + 1) e (by omega) (fun i hi hm => by
  rcases List.mem_append.1 hm with h | h
  ·have := hp _ h; omega
  ·have := List.mem_singleton.1 h; omega)]
 show _ = (ptsTo row (pre ++ [(q : Int)]) q ++ ((if ((q : Nat) : Int) ∈ pre ++ [(q : Int)] then [ptB] else []) ++ (row.drop q).take 1)) ++ _
 rw [if_pos (List.mem_append.2 (.inr (List.mem_singleton.2 rfl))), ptsTo_same row (pre ++ [(q : Int)]) pre q (fun i hi => ⟨fun h => by
  rcases List.mem_append.1 h with h | h
  ·exact h
  ·have := List.mem_singleton.1 h; omega, fun h => List.mem_append.2 (.inl h)⟩)]
 rw [List.drop_take, show q + 1 + e - q = 1 + e by omega, List.take_add, List.drop_drop]
 simp only [List.append_assoc]
theorem fill_Points_l (row : List S33) (at_ : List Int) (hr : row.length ≤ 400000) (h6 : ∀ x ∈ row, x.f6.length ≤ 17592186044415) (hat : at_.length ≤ 1000000) :
  ∀ (d i : Nat) (out : List S33) (pre : List Int) (last : Int) (fr : Nat), i + d = at_.length → -1 ≤ last → last < (row.length : Int) → (fr : Int) ≤ last + 1 → fr ≤ row.length →
   (∀ a ∈ pre, a ≤ last) → (∀ m : Nat, last + 1 ≤ (m : Int) → fr ≤ m → m ≤ row.length → out ++ (row.take m).drop fr = ptsTo row pre m) →
   Ev (fun k => fill_Points.l0 k row out last (fr : Int) at_ (at_.length : Int) (i : Int)) (ptsTo row (pre ++ putL row.length (at_.drop i) last) row.length)
 | 0, i, out, pre, last, fr, hi, h1, h2, h3, h4, hp, hinv => by
  have hfin := hinv row.length (by omega) h4 (Nat.le_refl _)
  rw [List.take_length] at hfin
  have hpt := ptsTo_parts row pre row.length (Nat.le_refl _)
  have hout : out.length ≤ 2 * row.length := by have := congrArg List.length hfin; rw [List.length_append] at this; omega
  refine Ev.step (fun k => by rw [fill_Points.l0]) (ev_neg (by omega) (ev_pos (by omega) (ev_pos (by omega) (ev_some ?_))))
  rw [Int.toNat_natCast, List.drop_eq_nil_of_le (show at_.length ≤ i by omega)]
  show Ev _ (ptsTo row (pre ++ []) row.length)
  rw [List.append_nil, hfin]
  refine ev_pos (by rw [List.length_drop]; omega) ?_
  have hown : fill_own.f (ptsTo row pre row.length) = some (ptsTo row pre row.length) := if_pos (okL_of (by omega) (fun x hx => by
   rcases hpt.2 x hx with h | rfl
   ·exact h6 x h
   ·exact Nat.zero_le _))
  exact ev_known hown (ev_now rfl)
 | d + 1, i, out, pre, last, fr, hi, h1, h2, h3, h4, hp, hinv => by
  have hlt : i < at_.length := by omega
  have hx : at_[i]? = some at_[i] := List.getElem?_eq_getElem hlt
  refine Ev.step (fun k => by rw [fill_Points.l0]) (ev_pos (by omega) (ev_pos (by omega) (ev_pos (by omega) ?_)))
  rw [rd_at hx, w64_succ (by omega), List.drop_eq_getElem_cons hlt]
  generalize at_[i] = a at *
  show Ev _ (ptsTo row (pre ++ (if last < a ∧ a < (row.length : Int) then a :: putL row.length (at_.drop (i + 1)) a else putL row.length (at_.drop (i + 1)) last)) row.length)
  by_cases c1 : a ≤ last
  ·refine ev_pos c1 ?_
   rw [if_neg (by omega)]
   exact fill_Points_l row at_ hr h6 hat d (i + 1) out pre last fr (by omega) h1 h2 h3 h4 hp hinv
  ·refine ev_neg c1 ?_
   by_cases c2 : a ≥ (row.length : Int)
   ·refine ev_pos c2 ?_
    rw [if_neg (by omega)]
    exact fill_Points_l row at_ hr h6 hat d (i + 1) out pre last fr (by omega) h1 h2 h3 h4 hp hinv
   ·rw [if_pos (by omega)]
    obtain ⟨q, rfl⟩ : ∃ q : Nat, a = (q : Int) := ⟨a.toNat, by omega⟩
    have hq := hinv q (by omega) (by omega) (by omega)
    have hpt := ptsTo_parts row pre q (by omega)
    have hol : out.length ≤ 2 * q := by have := congrArg List.length hq; rw [List.length_append] at this; omega
    refine ev_neg c2 (ev_pos (by omega) (ev_pos (by omega) (ev_pos (by omega) (ev_some ?_))))
    rw [Int.toNat_natCast, Int.toNat_natCast]
    refine ev_pos (by rw [List.length_drop, List.length_take]; omega) (ev_some ?_)
    rw [hq]
    refine ev_pos (by omega) ?_
    have ih := fill_Points_l row at_ hr h6 hat d (i + 1) (ptsTo row pre q ++ [ptB]) (pre ++ [(q : Int)]) (q : Int) q (by omega) (by omega) (by omega) (by omega) (by omega)
     (fun b hb => by
      rcases List.mem_append.1 hb with h | h
      ·have := hp b h; omega
      ·have := List.mem_singleton.1 h; omega)
     (fun m m1 m2 m3 => ptsTo_put row pre q (fun b hb => by have := hp b hb; omega) m (by omega) m3)
    rw [List.append_assoc] at ih
    exact ih
theorem fill_Points_f (row : List S33) (at_ : List Int) (hr : row.length ≤ 400000) (h6 : ∀ x ∈ row, x.f6.length ≤ 17592186044415) (hat : at_.length ≤ 1000000) :
  Ev (fun k => fill_Points.f k row at_) (ptsTo row (putL row.length at_ (-1)) row.length) := by
 have h := fill_Points_l row at_ hr h6 hat at_.length 0 [] [] (-1) 0 (by omega) (by omega) (by omega) (by omega) (by omega) (fun a ha => by cases ha) (fun m h1 h2 h3 => by
  have := ptsTo_far row [] 0 m (by omega) (fun i _ hm => by cases hm)
  rw [Nat.zero_add] at this
  rw [this]
  simp [ptsTo])
 rw [List.drop_zero, List.nil_append] at h
 exact h
def lastOf (acc : List Int) : Int := acc.getLast?.getD (-1)
theorem ref_Points_l0 (row : List S33) (at_ : List Int) (hr : row.length ≤ 400000) (hat : at_.length ≤ 1000000) (R : List S33) :
  ∀ (d i : Nat) (acc : List Int), i + d = at_.length → acc.length ≤ i → (∀ a ∈ acc, 0 ≤ a) → Ev (fun k => r_Points.l1 k row (acc ++ putL row.length (at_.drop i) (lastOf acc)) [] 0) R →
   Ev (fun k => r_Points.l0 k row at_ acc (i : Int)) R
 | 0, i, acc, hi, ha, hp, hR => by
  refine Ev.step (fun k => by rw [r_Points.l0]) (ev_neg (by omega) ?_)
  rw [List.drop_eq_nil_of_le (show at_.length ≤ i by omega)] at hR
  change Ev (fun k => r_Points.l1 k row (acc ++ []) [] 0) R at hR
  rw [List.append_nil] at hR
  exact hR
 | d + 1, i, acc, hi, ha, hp, hR => by
  have hlt : i < at_.length := by omega
  have hx : at_[i]? = some at_[i] := List.getElem?_eq_getElem hlt
  rw [List.drop_eq_getElem_cons hlt] at hR
  refine Ev.step (fun k => by rw [r_Points.l0]) (ev_pos (by omega) (ev_pos (by omega) ?_))
  rw [rd_at hx, w64_succ (by omega)]
  generalize at_[i] = a at *
  have hlast : -1 ≤ lastOf acc := by
   unfold lastOf
   cases hl : acc.getLast? with
   | none => exact Int.le_refl _
   | some b => have := hp b (List.mem_of_getLast? hl); show -1 ≤ b; omega
  change Ev (fun k => r_Points.l1 k row (acc ++ (if lastOf acc < a ∧ a < (row.length : Int) then a :: putL row.length (at_.drop (i + 1)) a else putL row.length (at_.drop (i + 1)) (lastOf acc))) [] 0) R at hR
  have hskip : ¬ (lastOf acc < a ∧ a < (row.length : Int)) → Ev (fun k => r_Points.l0 k row at_ acc ((i + 1 : Nat) : Int)) R := fun hc => by
   rw [if_neg hc] at hR
   exact ref_Points_l0 row at_ hr hat R d (i + 1) acc (by omega) (by omega) hp hR
  have htake : (lastOf acc < a ∧ a < (row.length : Int)) → 0 ≤ a → Ev (fun k => r_Points.l0 k row at_ (acc ++ [a]) ((i + 1 : Nat) : Int)) R := fun hc h0 => by
   rw [if_pos hc] at hR
   refine ref_Points_l0 row at_ hr hat R d (i + 1) (acc ++ [a]) (by omega) (by rw [List.length_append, List.length_singleton]; omega) (fun b hb => by
    rcases List.mem_append.1 hb with h | h
    ·exact hp b h
    ·rw [List.mem_singleton.1 h]; exact h0) ?_
   have : lastOf (acc ++ [a]) = a := by unfold lastOf; rw [List.getLast?_append]; rfl
   rw [this, List.append_assoc]
   exact hR
  by_cases c1 : a ≥ 0
  ·refine ev_pos c1 ?_
   by_cases c2 : a < (row.length : Int)
   ·refine ev_pos c2 ?_
    by_cases c3 : acc.length = 0
    ·have hnil : acc = [] := List.eq_nil_of_length_eq_zero c3
     subst hnil
     refine ev_pos (by simp) (ev_pos (by simp) ?_)
     exact htake ⟨by show (-1 : Int) < a; omega, c2⟩ c1
    ·refine ev_neg (by omega) ?_
     have e1 : wrap64 ((acc.length : Int) - 1) = ((acc.length - 1 : Nat) : Int) := by rw [w64_id (by omega) (by omega)]; omega
     rw [e1]
     refine ev_pos (by omega) (ev_pos (by omega) ?_)
     have hgl : acc[acc.length - 1]? = some (lastOf acc) := by
      unfold lastOf
      rw [List.getLast?_eq_getElem?]
      rw [List.getElem?_eq_getElem (by omega)]
      rfl
     rw [rd_at hgl]
     by_cases c4 : a > lastOf acc
     ·exact ev_pos c4 (ev_pos (by omega) (htake ⟨c4, c2⟩ c1))
     ·exact ev_neg c4 (hskip (fun h => c4 h.1))
   ·exact ev_neg c2 (hskip (fun h => c2 h.2))
  ·exact ev_neg c1 (hskip (fun h => by omega))
theorem ref_Points_l2 (row : List S33) (L : List Int) (hr : row.length ≤ 400000) (h6 : ∀ x ∈ row, x.f6.length ≤ 17592186044415) (hL : L.length ≤ 1000000) (hs : L.Pairwise (· < ·)) (i : Nat) (hi : i < row.length) (X : List S33) (hX : X.length ≤ 1000000) (R : List S33)
  (hR : Ev (fun k => r_Points.l1 k row L (X ++ ((if (i : Int) ∈ L then [ptB] else []) ++ (row.drop i).take 1)) ((i + 1 : Nat) : Int)) R) :
  ∀ (d j : Nat), j + d = L.length → Ev (fun k => r_Points.l2 k row L (X ++ (if (i : Int) ∈ L.take j then [ptB] else [])) (i : Int) (j : Int)) R
 | 0, j, hj => by
  refine Ev.step (fun k => by rw [r_Points.l2]) (ev_neg (by omega) (ev_pos (by omega) ?_))
  rw [w64_succ (by omega), List.take_of_length_le (show L.length ≤ j by omega)]
  refine ev_pos (by omega) (ev_pos (by omega) ?_)
  rw [Int.toNat_natCast, Int.toNat_natCast, List.drop_take, show i + 1 - i = 1 by omega]
  refine Ev.bind (ref_own _ (by rw [List.length_take]; omega) (fun x hx => h6 x (List.mem_of_mem_drop (List.mem_of_mem_take hx)))) ?_
  refine ev_pos (by
   rw [List.length_append, List.length_take]
   have : (if (i : Int) ∈ L then [ptB] else []).length ≤ 1 := by split <;> simp
   omega) ?_
  rw [List.append_assoc]
  exact hR
 | d + 1, j, hj => by
  have hlt : j < L.length := by omega
  have hx : L[j]? = some L[j] := List.getElem?_eq_getElem hlt
  have ih := ref_Points_l2 row L hr h6 hL hs i hi X hX R hR d (j + 1) (by omega)
  refine Ev.step (fun k => by rw [r_Points.l2]) (ev_pos (by omega) (ev_pos (by omega) ?_))
  rw [rd_at hx, w64_succ (by omega)]
  have htk : L.take (j + 1) = L.take j ++ [L[j]] := List.take_succ_eq_append_getElem hlt
  rw [htk] at ih
  by_cases c : L[j] = (i : Int)
  ·have hno : ¬ (i : Int) ∈ L.take j := fun hm => by
    obtain ⟨q, hq, e⟩ := List.mem_iff_getElem.1 hm
    rw [List.length_take] at hq
    rw [List.getElem_take] at e
    have := List.pairwise_iff_getElem.1 hs q j (by omega) hlt (by omega)
    omega
   rw [if_neg hno, List.append_nil]
   rw [if_pos (List.mem_append.2 (.inr (List.mem_singleton.2 c.symm)))] at ih
   exact ev_pos c (ev_pos (by omega) ih)
  ·have hiff : ((i : Int) ∈ L.take j ++ [L[j]]) ↔ (i : Int) ∈ L.take j := ⟨fun h => by
    rcases List.mem_append.1 h with h | h
    ·exact h
    ·exact absurd (List.mem_singleton.1 h).symm c, fun h => List.mem_append.2 (.inl h)⟩
   simp only [hiff] at ih
   exact ev_neg c ih
theorem ref_Points_l1 (row : List S33) (L : List Int) (hr : row.length ≤ 400000) (h6 : ∀ x ∈ row, x.f6.length ≤ 17592186044415) (hL : L.length ≤ 1000000) (hs : L.Pairwise (· < ·)) : ∀ (d i : Nat), i + d = row.length → Ev (fun k => r_Points.l1 k row L (ptsTo row L i) (i : Int)) (ptsTo row L row.length)
 | 0, i, h => by
  obtain rfl : i = row.length := by omega
  exact Ev.step (fun k => by rw [r_Points.l1]) (ev_neg (by omega) (ev_now rfl))
 | d + 1, i, h => by
  have ih := ref_Points_l1 row L hr h6 hL hs d (i + 1) (by omega)
  refine Ev.step (fun k => by rw [r_Points.l1]) (ev_pos (by omega) ?_)
  have hpt := ptsTo_parts row L i (by omega)
  have h2 := ref_Points_l2 row L hr h6 hL hs i (by omega) (ptsTo row L i) (by omega) _ ih L.length 0 (by omega)
  rw [List.take_zero, if_neg (by simp), List.append_nil] at h2
  exact h2
theorem ref_Points_f (row : List S33) (at_ : List Int) (hr : row.length ≤ 400000) (h6 : ∀ x ∈ row, x.f6.length ≤ 17592186044415) (hat : at_.length ≤ 1000000) :
  Ev (fun k => r_Points.f k row at_) (ptsTo row (putL row.length at_ (-1)) row.length) := by
 refine ref_Points_l0 row at_ hr hat _ at_.length 0 [] (by omega) (by simp) (fun a ha => by cases ha) ?_
 rw [List.drop_zero, List.nil_append]
 have hlen := putL_len row.length at_ (-1)
 exact ref_Points_l1 row (putL row.length at_ (-1)) hr h6 (by omega) (putL_sorted _ _ _) row.length 0 (by omega)
end Go.Proofs.YteadghhmoggjnaaB
end
