import Derived.Test.YteadghhmoggjnaaFF22
import Derived.Test.YteadghhmoggjnaaFF21
section
/- Plain law: no line is broader than its length, unless it is one piece. -/
set_option linter.unusedVariables false
set_option linter.unusedSimpArgs false
namespace Go.Proofs.YteadghhmoggjnaaB
open Go.RowKit
open Go.Proofs.Yteadghhmoggjnaa.Q
open Go.Proofs.YteadghhmoggjnaaW.PrintWords Go.Proofs.YteadghhmoggjnaaW.PrintLast Go.Proofs.YteadghhmoggjnaaW.PrintMore
set_option maxHeartbeats 1600000
theorem restL_nil : ∀ l : List S33, restL l = [] → ∀ x ∈ l, blankB x = true
 | [], _, x, hx => by cases hx
 | y :: r, h, x, hx => by
  rw [restL_cons] at h
  split at h
  ·rename_i hb
   rcases List.mem_cons.1 hx with rfl | hx
   ·exact hb
   ·exact restL_nil r h x hx
  ·cases h
theorem width_up : ∀ (l : List S33) (a : Int), (∀ x ∈ l, 0 ≤ x.f1 ∧ x.f1 ≤ 20) → 0 ≤ a → a + 20 * (l.length : Int) ≤ 1000000 → a ≤ l.foldl widthStep a ∧ l.foldl widthStep a ≤ a + 20 * (l.length : Int)
 | [], a, _, _, _ => by simp
 | x :: r, a, hx, h1, h2 => by
  have hx0 := hx x List.mem_cons_self
  rw [List.length_cons] at h2 ⊢
  rw [List.foldl_cons]
  have hs : widthStep a x = a ∨ widthStep a x = a + x.f1 := by
   unfold widthStep
   split
   ·right
    unfold wrap64
    omega
   ·exact .inl rfl
  have ih := width_up r (widthStep a x) (fun y hy => hx y (List.mem_cons_of_mem _ hy)) (by rcases hs with h | h <;> omega) (by rcases hs with h | h <;> omega)
  rcases hs with h | h <;> omega
theorem width_mono (l : List S33) (hl : l.length ≤ 1000) (hx : ∀ x ∈ l, 0 ≤ x.f1 ∧ x.f1 ≤ 20) {m i : Nat} (h : m ≤ i) : widthW (l.take m) ≤ widthW (l.take i) := by
 obtain ⟨d, rfl⟩ : ∃ d, i = m + d := ⟨i - m, by omega⟩
 rw [List.take_add]
 have e : widthW (l.take m ++ (l.drop m).take d) = ((l.drop m).take d).foldl widthStep (widthW (l.take m)) := by unfold widthW; rw [List.foldl_append]
 have h0 := width_up (l.take m) 0 (fun x h => hx x (List.mem_of_mem_take h)) (by omega) (by rw [List.length_take]; omega)
 have e0 : widthW (l.take m) = (l.take m).foldl widthStep 0 := rfl
 have h1 : (l.take m).length ≤ 1000 := by rw [List.length_take]; omega
 have h2 : ((l.drop m).take d).length ≤ 1000 := by rw [List.length_take, List.length_drop]; omega
 have h3 := width_up ((l.drop m).take d) (widthW (l.take m)) (fun x h => hx x (List.mem_of_mem_drop (List.mem_of_mem_take h))) (by omega) (by omega)
 rw [e]
 exact h3.1
/-- A line that is fine: what is left of it without blanks behind fits, or it is one piece. -/
def Fine (n : Int) (x : List S33) : Prop := ∀ m, m ≤ x.length → (∀ (j : Nat) b, m ≤ j → x[j]? = some b → blankB b = true) → (∀ b, x[m - 1]? = some b → 0 < m → blankB b = false) →
 widthW (x.take m) ≤ n ∨ ((wordsL (x.take m)).length = 1 ∧ placesL (x.take m) = [])
theorem fine_core {n : Int} {x : List S33} (hl : x.length ≤ 1000) (hx : ∀ y ∈ x, 0 ≤ y.f1 ∧ y.f1 ≤ 20) (i : Nat) (hi : i ≤ x.length) (hw : widthW (x.take i) ≤ n) (hb : ∀ (j : Nat) b, i ≤ j → x[j]? = some b → blankB b = true) : Fine n x := fun m hm h1 h2 => by
 left
 have : m ≤ i := by
  apply Nat.le_of_not_lt
  intro hlt
  obtain ⟨b, hb0⟩ : ∃ b, x[m - 1]? = some b := ⟨_, List.getElem?_eq_getElem (by omega)⟩
  have a1 := hb (m - 1) b (by omega) hb0
  have a2 := h2 b hb0 (by omega)
  rw [a1] at a2
  cases a2
 have := width_mono x hl hx this
 omega
theorem words_one {x : List S33} (h0 : 0 < x.length) (hb : ∀ b ∈ x, blankB b = false) : (wordsL x).length = 1 := by
 have hr : restL x = x := restL_solid (fun b h => hb b (List.mem_of_getElem? h))
 unfold wordsL
 rw [hr]
 cases x with
 | nil => simp at h0
 | cons a r =>
  have hf : (a :: r).findIdx blankB = (a :: r).length := by
   rw [List.findIdx_eq_length]
   exact fun b h => by rw [hb b h]; 
  show ((a :: r).take ((a :: r).findIdx blankB) :: wordsGo (a :: r).length (restL ((a :: r).drop ((a :: r).findIdx blankB)))).length = 1
  rw [hf, List.drop_length]
  have : ∀ k, wordsGo k (restL ([] : List S33)) = [] := fun k => by cases k <;> rfl
  rw [this]
  rfl
theorem fine_piece {n : Int} {x : List S33} (h0 : 0 < x.length) (hb : ∀ b ∈ x, blankB b = false) (hp : placesL x = []) : Fine n x := fun m hm h1 h2 => by
 right
 have hmx : m = x.length := by
  apply Nat.le_antisymm hm
  apply Nat.le_of_not_lt
  intro hlt
  obtain ⟨b, hb0⟩ : ∃ b, x[m]? = some b := ⟨_, List.getElem?_eq_getElem hlt⟩
  have := h1 m b (Nat.le_refl _) hb0
  rw [hb b (List.mem_of_getElem? hb0)] at this
  cases this
 subst hmx
 rw [List.take_length]
 exact ⟨words_one h0 hb, hp⟩
theorem brk_take {y : List S33} {p q : Nat} (hp : p ≤ y.length) (h : brk (y.take p) q = true) : brk y q = true ∧ q < p := by
 have hq := brk_lt h
 rw [List.length_take] at hq
 have hqy : q < y.length := by omega
 obtain ⟨x, hx⟩ : ∃ x, y[q]? = some x := ⟨_, List.getElem?_eq_getElem hqy⟩
 have hx2 : (y.take p)[q]? = some x := by rw [List.getElem?_take, if_pos (by omega), hx]
 rw [brk_at hx2] at h
 rw [brk_at hx]
 simp only [Bool.and_eq_true, Bool.not_eq_true'] at h ⊢
 refine ⟨⟨h.1, ?_, ?_⟩, by omega⟩
 ·have h2 := h.2.1
  rw [List.take_take, Nat.min_eq_left (by omega)] at h2
  exact h2
 ·have h3 := h.2.2
  unfold noneB at h3 ⊢
  rw [List.all_eq_false] at h3 ⊢
  obtain ⟨z, hz, hn⟩ := h3
  refine ⟨z, ?_, hn⟩
  rw [List.drop_take] at hz
  exact List.mem_of_mem_take hz
theorem places_sorted (y : List S33) : (placesL y).Pairwise (· < ·) := by
 unfold placesL placesTo
 rw [List.pairwise_map]
 exact ((List.pairwise_lt_range).sublist List.filter_sublist).imp (fun h => by omega)
theorem places_first {y : List S33} {p : Int} (h : (placesL y)[0]? = some p) : placesL (y.take p.toNat) = [] := by
 obtain ⟨q, rfl, hq⟩ := placesL_mem (List.mem_of_getElem? h)
 rw [Int.toNat_natCast]
 have hqy := brk_lt hq
 apply List.eq_nil_iff_forall_not_mem.2
 intro a ha
 obtain ⟨r, rfl, hr⟩ := placesL_mem ha
 obtain ⟨h1, h2⟩ := brk_take (by omega) hr
 have hmem : (r : Int) ∈ placesL y := by
  unfold placesL placesTo
  have := brk_lt h1
  exact List.mem_map.2 ⟨r, List.mem_filter.2 ⟨List.mem_range.2 (by omega), h1⟩, rfl⟩
 obtain ⟨i, hi, e⟩ := List.mem_iff_getElem.1 hmem
 obtain ⟨h0, e0⟩ := List.getElem?_eq_some_iff.1 h
 rcases Nat.eq_zero_or_pos i with rfl | hpos
 ·rw [e0] at e; omega
 ·have := List.pairwise_iff_getElem.1 (places_sorted y) 0 i h0 hi hpos
  rw [e0, e] at this
  omega
section
variable (R : List S33) (n : Int) (h : S33) (hR : R.length ≤ 1000) (hw : ∀ x ∈ R, 0 ≤ x.f1 ∧ x.f1 ≤ 20) (hh : h.f0 = 5) (hR0 : ∀ x, R[0]? = some x → blankB x = false)
include hR hw in
theorem fine_take (i : Nat) (hw0 : widthW (R.take i) ≤ n) : Fine n (R.take i) := by
 refine fine_core (by rw [List.length_take]; omega) (fun y hy => hw y (List.mem_of_mem_take hy)) (R.take i).length (Nat.le_refl _) (by rw [List.take_length]; exact hw0) (fun j b hj hb => ?_)
 rw [List.getElem?_eq_none hj] at hb
 cases hb
include hR hw hh hR0 in
theorem fine_at (i : Nat) (hi : i < R.length) (hbR : begA R i ≠ R.length) (hwi : widthW (R.take i) ≤ n) : Fine n (ansAt R n h i).1 := by
 have hhy : ∀ l : List S33, hyph l h = l := fun l => by unfold hyph; rw [if_pos hh]
 have hs2 := stopA_gt hi hbR
 have hs1 := stopA_le (row := R) (Nat.le_of_lt hi)
 have hword : ∀ j, begA R i ≤ j → (hj : j < stopA R i) → ∀ x, R[j]? = some x → blankB x = false := fun j h1 h2 x hx => by
  have hfi : stopA R i = begA R i + (R.drop (begA R i)).findIdx blankB := rfl
  have h4 := List.not_of_lt_findIdx (p := blankB) (xs := R.drop (begA R i)) (i := j - begA R i) (by omega)
  rw [List.getElem_drop] at h4
  obtain ⟨hjl, rfl⟩ := List.getElem?_eq_some_iff.1 hx
  simp only [show begA R i + (j - begA R i) = j by omega] at h4
  simpa using h4
 unfold ansAt
 cases hfd : (allA R i).reverse.find? (fitsL R n h i) with
 | some p =>
  have hf := List.find?_some hfd
  show Fine n (hyph (R.take (begA R i + p.toNat)) h)
  rw [hhy]
  refine fine_take R n hR hw _ ?_
  unfold fitsL cutL at hf
  rw [hhy] at hf
  exact of_decide_eq_true hf
 | none =>
  show Fine n (if 0 < i then _ else _ : List S33 × List S33 × Bool).1
  by_cases h0 : 0 < i
  ·rw [if_pos h0]
   exact fine_take R n hR hw i hwi
  ·rw [if_neg h0]
   obtain rfl : i = 0 := by omega
   have hb0 : begA R 0 = 0 := begA_solid R hi (by rw [hR0 _ (List.getElem?_eq_getElem hi)]; decide)
   have hy : (R.drop (begA R 0)).take (stopA R 0 - begA R 0) = R.take (stopA R 0) := by rw [hb0, List.drop_zero, Nat.sub_zero]
   have hall : allA R 0 = placesL (R.take (stopA R 0)) := by unfold allA; rw [hy]
   rw [hb0] at hword hs2
   have hnb : ∀ k, k ≤ stopA R 0 → ∀ b ∈ R.take k, blankB b = false := fun k hk b hb => by
    obtain ⟨j, hj, e⟩ := List.mem_iff_getElem.1 hb
    rw [List.length_take] at hj
    rw [List.getElem_take] at e
    exact hword j (Nat.zero_le _) (by omega) b (by rw [← e]; exact List.getElem?_eq_getElem (by omega))
   cases hp : (allA R 0)[0]? with
   | some p =>
    show Fine n (hyph (R.take (begA R 0 + p.toNat)) h)
    rw [hhy, hb0, Nat.zero_add]
    rw [hall] at hp
    have hpl := places_first hp
    obtain ⟨q, rfl, hq⟩ := placesL_mem (List.mem_of_getElem? hp)
    have hql := brk_lt hq
    rw [List.length_take] at hql
    rw [Int.toNat_natCast] at hpl ⊢
    rw [List.take_take, Nat.min_eq_left (by omega)] at hpl
    have hq0 : 0 < q := by
     rcases Nat.eq_zero_or_pos q with rfl | h
     ·unfold brk at hq
      split at hq
      ·simp [noneB] at hq
      ·cases hq
     ·exact h
    exact fine_piece (by rw [List.length_take]; omega) (hnb q (by omega)) hpl
   | none =>
    show Fine n (R.take (stopA R 0))
    have hnil : allA R 0 = [] := by
     cases ha : allA R 0 with
     | nil => rfl
     | cons a r => rw [ha] at hp; simp at hp
    rw [hall] at hnil
    exact fine_piece (by rw [List.length_take]; omega) (hnb _ (Nat.le_refl _)) hnil
include hR hw hh hR0 in
theorem fine_go (hn : 0 ≤ n) : ∀ (f i : Nat), R.length < f + i → i ≤ R.length → widthW (R.take i) ≤ n → Fine n (takeGo R n h f i).1
 | 0, i, hf, hi, _ => by omega
 | f + 1, i, hf, hi, hwi => by
  unfold takeGo
  by_cases hi2 : i < R.length
  ·rw [if_pos hi2]
   by_cases hbR : begA R i = R.length
   ·rw [if_pos hbR]
    refine fine_core hR hw i hi hwi (fun j b hj hb => ?_)
    have h1 := begA_drop (row := R) i
    rw [hbR, List.drop_length] at h1
    have h2 : ∀ x ∈ R.drop i, blankB x = true := by
     exact restL_nil _ h1.symm
    refine h2 b (List.mem_of_getElem? (i := j - i) ?_)
    rw [List.getElem?_drop, show i + (j - i) = j by omega]
    exact hb
   ·rw [if_neg hbR]
    have hs1 := stopA_le (row := R) hi
    have hs2 := stopA_gt hi2 hbR
    have hb2 := begA_ge R i
    by_cases hws : widthW (R.take (stopA R i)) ≤ n
    ·rw [if_pos hws]
     exact fine_go hn f (stopA R i) (by omega) hs1 hws
    ·rw [if_neg hws]
     exact fine_at R n h hR hw hh hR0 i hi2 hbR hwi
  ·rw [if_neg hi2]
   have : i = R.length := by omega
   have h0 := fine_take R n hR hw i hwi
   rw [this, List.take_length] at h0
   exact h0
end
theorem fine_line (l : List S33) (n : Int) (h : S33) (hl : l.length ≤ 1000) (hw : ∀ x ∈ l, 0 ≤ x.f1 ∧ x.f1 ≤ 20) (hh : h.f0 = 5) (hn : 0 ≤ n) : Fine n (takeL l n h).1 := by
 have h1 := restL_le l
 exact fine_go (restL l) n h (by omega) (fun x hx => hw x (restL_mem hx)) hh (fun x hx => restL_head hx) hn _ 0 (by omega) (Nat.zero_le _) (by show (0 : Int) ≤ n; exact hn)
end Go.Proofs.YteadghhmoggjnaaB
end
section
/- No line of a row whose widths grow is broader than its length, unless it is one piece: what FillFits' walk reckons is true. -/
set_option linter.unusedVariables false
set_option linter.unusedSimpArgs false
namespace Go.Proofs.Yteadghhmoggjnaa.Pure
open Go.RowKit Go.Proofs.Yteadghhmoggjnaa.Q Go.Proofs.YteadghhmoggjnaaW.PrintWords Go.Proofs.YteadghhmoggjnaaW.PrintLast Go.Proofs.YteadghhmoggjnaaW.PrintMore Go.Proofs.YteadghhmoggjnaaB
set_option maxHeartbeats 1600000
theorem plain_l (l : List S33) (hl : l.length ≤ 1000000) : ∀ (d i : Nat) (acc : List S33), i + d = l.length → acc.length ≤ i → Ev (fun k => frisketlaw11_plain.l0 k l acc (i : Int)) (acc ++ (l.drop i).filter (fun x => !(x.f0 == 2)))
 | 0, i, acc, h, ha => by
  rw [List.drop_eq_nil_of_le (by omega), List.filter_nil, List.append_nil]
  refine Ev.step (fun k => by rw [frisketlaw11_plain.l0]) ?_
  exact ev_neg (by omega) (ev_now rfl)
 | d + 1, i, acc, h, ha => by
  have hlt : i < l.length := by omega
  have hx : l[i]? = some l[i] := List.getElem?_eq_getElem hlt
  refine Ev.step (fun k => by rw [frisketlaw11_plain.l0]) (ev_pos (by omega) (ev_pos (by omega) ?_))
  rw [rdT_at hx, w64_succ (by omega), List.drop_eq_getElem_cons hlt, List.filter_cons]
  by_cases h2 : l[i].f0 = 2
  ·refine ev_pos h2 ?_
   rw [if_neg (by simp [h2])]
   exact plain_l l hl d (i + 1) acc (by omega) (by omega)
  ·refine ev_neg h2 (ev_pos (by omega) ?_)
   rw [if_pos (by simp [h2])]
   have ih := plain_l l hl d (i + 1) (acc ++ [l[i]]) (by omega) (by rw [List.length_append, List.length_singleton]; omega)
   rw [List.append_assoc] at ih
   exact ih
theorem some_l (l : List S33) (hl : l.length ≤ 1000000) : ∀ (d i : Nat), i + d = l.length → Ev (fun k => frisketlaw11_some.l0 k l (i : Int)) (!(noneB solidP (l.drop i)))
 | 0, i, h => by
  rw [List.drop_eq_nil_of_le (by omega)]
  refine Ev.step (fun k => by rw [frisketlaw11_some.l0]) ?_
  exact ev_neg (by omega) (ev_now rfl)
 | d + 1, i, h => by
  have hlt : i < l.length := by omega
  have hx : l[i]? = some l[i] := List.getElem?_eq_getElem hlt
  refine Ev.step (fun k => by rw [frisketlaw11_some.l0]) (ev_pos (by omega) (ev_pos (by omega) ?_))
  rw [rdT_at hx, w64_succ (by omega), List.drop_eq_getElem_cons hlt]
  have e : noneB solidP (l[i] :: l.drop (i + 1)) = (!(solidP l[i]) && noneB solidP (l.drop (i + 1))) := rfl
  rw [e]
  by_cases h5 : l[i].f0 = 5
  ·refine ev_pos h5 ?_
   have : solidP l[i] = false := by unfold solidP; rw [h5]; rfl
   rw [this, Bool.not_false, Bool.true_and]
   exact some_l l hl d (i + 1) (by omega)
  ·refine ev_neg h5 (ev_now ?_)
   rw [solidP_not.2 h5]
   rfl
theorem some_f (l : List S33) (hl : l.length ≤ 1000000) : Ev (fun k => frisketlaw11_some.f k l) (!(noneB solidP l)) := some_l l hl l.length 0 (by omega)
theorem places_l (l : List S33) (hl : l.length ≤ 1000000) : ∀ (m i : Nat), i + m = l.length → Ev (fun k => frisketlaw11_places.l0 k l (placesTo l i) (i : Int)) (placesL l)
 | 0, i, h => by
  obtain rfl : i = l.length := by omega
  refine Ev.step (fun k => by rw [frisketlaw11_places.l0]) ?_
  exact ev_neg (by omega) (ev_now rfl)
 | m + 1, i, h => by
  have hi : i < l.length := by omega
  have hx : l[i]? = some l[i] := List.getElem?_eq_getElem hi
  have hacc : (placesTo l i).length < 17592186044416 := by have := placesTo_len l i; omega
  have ih := places_l l hl m (i + 1) (by omega)
  have hb := brk_at hx
  refine Ev.step (fun k => by rw [frisketlaw11_places.l0]) (ev_pos (by omega) (ev_pos (by omega) ?_))
  rw [rdT_at hx, w64_succ (by omega), Int.toNat_natCast, Int.toNat_natCast]
  have hno : brk l i = false → Ev (fun k => frisketlaw11_places.l0 k l (placesTo l i) ((i + 1 : Nat) : Int)) (placesL l) := fun h0 => by
   rw [placesTo_no h0] at ih
   exact ih
  by_cases h5 : l[i].f0 = 5
  ·refine ev_pos h5 (ev_pos (by omega) (Ev.bind (some_f (l.take i) (by rw [List.length_take]; omega)) ?_))
   cases h1 : noneB solidP (l.take i)
   ·refine ev_pos rfl (ev_pos (by omega) (ev_pos (by omega) (Ev.bind (some_f (l.drop (i + 1)) (by rw [List.length_drop]; omega)) ?_)))
    cases h2 : noneB solidP (l.drop (i + 1))
    ·rw [placesTo_yes (by rw [hb, h5, h1, h2]; rfl)] at ih
     exact ev_pos rfl (ev_pos hacc ih)
    ·exact ev_neg (by decide) (hno (by rw [hb, h1, h2]; simp))
   ·exact ev_neg (by decide) (hno (by rw [hb, h1]; simp))
  ·exact ev_neg h5 (hno (by rw [hb, beq_eq_false_iff_ne.2 h5]; rfl))
theorem places_f (l : List S33) (hl : l.length ≤ 1000000) : Ev (fun k => frisketlaw11_places.f k l) (placesL l) := places_l l hl l.length 0 (by omega)
theorem words_l (l : List S33) (hl : l.length ≤ 1000000) (h6 : ∀ x ∈ l, x.f6.length ≤ 17592186044415) : ∀ (d at_ : Nat) (acc : List (List S33)) (f : Nat), l.length ≤ at_ + d → at_ ≤ l.length → l.length < at_ + f → acc.length + l.length ≤ at_ + 1000000 →
  Ev (fun k => frisketref11_Words.l0 k l acc (at_ : Int)) (acc ++ wordsGo f (restL (l.drop at_)))
 | 0, at_, acc, f, hd, ha, hf, hacc => by
  obtain rfl : at_ = l.length := by omega
  obtain ⟨f, rfl⟩ : ∃ f', f = f' + 1 := ⟨f - 1, by omega⟩
  refine Ev.step (fun k => by rw [frisketref11_Words.l0]) (ev_neg (by omega) (ev_now ?_))
  rw [List.drop_length]
  show acc = acc ++ []
  rw [List.append_nil]
 | d + 1, at_, acc, f, hd, ha, hf, hacc => by
  by_cases hlt : at_ < l.length
  ·obtain ⟨f, rfl⟩ : ∃ f', f = f' + 1 := ⟨f - 1, by omega⟩
   have hdr : l.drop at_ = l[at_] :: l.drop (at_ + 1) := List.drop_eq_getElem_cons hlt
   refine Ev.step (fun k => by rw [frisketref11_Words.l0]) (ev_pos (by omega) (Ev.bind (ref_word l hl at_ ha) ?_))
   by_cases hb : blankB l[at_] = true
   ·have h0 : (l.drop at_).findIdx blankB = 0 := by rw [hdr, List.findIdx_cons, hb]; rfl
    rw [h0, hdr, restL_cons, if_pos hb]
    refine ev_neg (by decide) ?_
    rw [show wrap64 ((at_ : Int) + mx ((0 : Nat) : Int) 1) = ((at_ + 1 : Nat) : Int) by
     have : mx ((0 : Nat) : Int) 1 = 1 := rfl
     rw [this, w64_succ (by omega)]]
    exact words_l l hl h6 d (at_ + 1) acc (f + 1) (by omega) (by omega) (by omega) (by omega)
   ·have hb' : blankB l[at_] = false := by simpa using hb
    have hpos : 0 < (l.drop at_).findIdx blankB := findIdx_pos (by rw [List.length_drop]; omega) (fun x hx => by
     rw [hdr] at hx
     have : l[at_] = x := Option.some.inj hx
     rw [← this]; exact hb')
    have hle := List.findIdx_le_length (p := blankB) (xs := l.drop at_)
    have hlen : (l.drop at_).length = l.length - at_ := List.length_drop
    have hrest : restL (l.drop at_) = l.drop at_ := by rw [hdr, restL_cons, if_neg hb]
    have hwc : wordsGo (f + 1) (l.drop at_) = (l.drop at_).take ((l.drop at_).findIdx blankB) :: wordsGo f (restL ((l.drop at_).drop ((l.drop at_).findIdx blankB))) := by rw [hdr]; rfl
    rw [hrest, hwc]
    generalize (l.drop at_).findIdx blankB = n at *
    rw [show wrap64 ((at_ : Int) + (n : Int)) = ((at_ + n : Nat) : Int) by rw [w64_id (by omega) (by omega)]; omega]
    refine ev_pos (by omega) (ev_pos (by omega) (ev_pos (by omega) (ev_pos (by omega) ?_)))
    rw [Int.toNat_natCast, Int.toNat_natCast, List.drop_take, Nat.add_sub_cancel_left]
    have hmx : mx (n : Int) 1 = (n : Int) := by unfold mx; split <;> omega
    rw [hmx, show wrap64 ((at_ : Int) + (n : Int)) = ((at_ + n : Nat) : Int) by rw [w64_id (by omega) (by omega)]; omega]
    refine Ev.bind (ref_own _ (by rw [List.length_take, hlen]; omega) (fun x hx => h6 x (List.mem_of_mem_drop (List.mem_of_mem_take hx)))) (ev_pos (by omega) ?_)
    have ih := words_l l hl h6 d (at_ + n) (acc ++ [(l.drop at_).take n]) f (by omega) (by omega) (by omega) (by rw [List.length_append, List.length_singleton]; omega)
    rw [List.append_assoc] at ih
    rw [List.drop_drop]
    exact ih
  ·obtain rfl : at_ = l.length := by omega
   exact words_l l hl h6 0 l.length acc f (by omega) ha hf hacc
theorem words_f (l : List S33) (hl : l.length ≤ 1000000) (h6 : ∀ x ∈ l, x.f6.length ≤ 17592186044415) : Ev (fun k => frisketref11_Words.f k l) (wordsL l) :=
 words_l l hl h6 l.length 0 [] (l.length + 1) (by omega) (by omega) (by omega) (by rw [List.length_nil]; omega)
/-- One line: blanks are stripped, then it is looked at. -/
theorem line_l (n : Int) (L : List (List S33)) (i : Nat) (hi : i < L.length) (hL : L.length ≤ 1000000) (y : List S33) (hy : y.length ≤ 1000) (h6 : ∀ x ∈ y, x.f6.length ≤ 0) (hf : Fine n y) (hnext : Ev (fun k => frisketlaw11_FillFits.l0 k n L ((i + 1 : Nat) : Int)) true) :
  ∀ (m : Nat), m ≤ y.length → (∀ (j : Nat) b, m ≤ j → y[j]? = some b → blankB b = true) → Ev (fun k => frisketlaw11_FillFits.l1 k n L (i : Int) (y.take m)) true := by
 intro m
 have hj2 : ∀ m, m ≤ y.length → (∀ (j : Nat) b, m ≤ j → y[j]? = some b → blankB b = true) → (∀ b, y[m - 1]? = some b → 0 < m → blankB b = false) → Ev (fun k => frisketlaw11_FillFits.j2 k n L (i : Int) (y.take m)) true := fun m hm h1 h2 => by
  have hlen : (y.take m).length = m := by rw [List.length_take]; omega
  have hd := hf m hm h1 h2
  refine Ev.step (fun k => by rw [frisketlaw11_FillFits.j2]) (Ev.bind (⟨m + 1, fun k hk => ref_width (y.take m) (by omega) (by omega)⟩) ?_)
  rw [w64_succ (by omega)]
  by_cases hwn : widthW (y.take m) > n
  ·refine ev_pos hwn (Ev.bind (words_f (y.take m) (by omega) (fun x hx => by have := h6 x (List.mem_of_mem_take hx); omega)) ?_)
   rcases hd with h | ⟨a, b⟩
   ·omega
   ·refine ev_pos (by omega) (Ev.bind (places_f (y.take m) (by omega)) ?_)
    rw [b]
    exact ev_neg (by simp) hnext
  ·exact ev_neg hwn hnext
 induction m with
 | zero =>
  intro hm h1
  have hlen : (y.take 0).length = 0 := by simp
  refine Ev.step (fun k => by rw [frisketlaw11_FillFits.l1]) (ev_neg (by omega) ?_)
  exact hj2 0 hm h1 (fun b _ h => by omega)
 | succ m ih =>
  intro hm h1
  have hlen : (y.take (m + 1)).length = m + 1 := by rw [List.length_take]; omega
  have hx : (y.take (m + 1))[m]? = some y[m] := by rw [List.getElem?_take, if_pos (by omega), List.getElem?_eq_getElem (by omega)]
  refine Ev.step (fun k => by rw [frisketlaw11_FillFits.l1]) (ev_pos (by omega) ?_)
  have e : wrap64 (((y.take (m + 1)).length : Int) - 1) = (m : Int) := by rw [hlen, w64_id (by omega) (by omega)]; omega
  rw [e]
  refine ev_pos (by omega) (ev_pos (by omega) ?_)
  rw [rdT_at hx, blank_f, Int.toNat_natCast, List.take_take, Nat.min_eq_left (by omega)]
  refine ev_some ?_
  by_cases hb : blankB y[m] = true
  ·refine ev_pos hb (ev_pos (by omega) ?_)
   refine ih (by omega) (fun j b hj hjb => ?_)
   rcases Nat.lt_or_ge j (m + 1) with h | h
   ·have : j = m := by omega
    subst this
    rw [List.getElem?_eq_getElem (by omega)] at hjb
    rw [← Option.some.inj hjb]
    exact hb
   ·exact h1 j b h hjb
  ·refine ev_neg hb ?_
   exact hj2 (m + 1) hm h1 (fun b hb0 _ => by
    rw [Nat.add_sub_cancel, List.getElem?_eq_getElem (by omega)] at hb0
    rw [← Option.some.inj hb0]
    simpa using hb)
theorem lines_l (n : Int) (L : List (List S33)) (hL : L.length ≤ 1000000) (hq : ∀ y ∈ L, y.length ≤ 1000 ∧ (∀ x ∈ y, x.f6.length ≤ 0) ∧ Fine n y) : ∀ (d i : Nat), i + d = L.length → Ev (fun k => frisketlaw11_FillFits.l0 k n L (i : Int)) true
 | 0, i, h => by
  have hs : frisketlaw11_sane.f = some true := rfl
  refine Ev.step (fun k => by rw [frisketlaw11_FillFits.l0]) ?_
  exact ev_neg (by omega) (ev_known hs (ev_now rfl))
 | d + 1, i, h => by
  have hi : i < L.length := by omega
  obtain ⟨a, b, c⟩ := hq L[i] (List.getElem_mem hi)
  have hrd : rd_L4 L (i : Int) = L[i] := by
   unfold rd_L4
   rw [Int.toNat_natCast, List.getD_eq_getElem?_getD, List.getElem?_eq_getElem hi]
   rfl
  refine Ev.step (fun k => by rw [frisketlaw11_FillFits.l0]) (ev_pos (by omega) (ev_pos (by omega) ?_))
  rw [hrd]
  have h1 := line_l n L i hi hL L[i] a b c (lines_l n L hL hq d (i + 1) (by omega)) L[i].length (Nat.le_refl _) (fun j b hj hb => by rw [List.getElem?_eq_none hj] at hb; cases hb)
  rw [List.take_length] at h1
  exact h1
theorem plain_pos {l : List Int} {x : S33} (h : x ∈ (rowL l).filter (fun x => !(x.f0 == 2))) : 0 ≤ x.f1 := by
 obtain ⟨h1, h2⟩ := List.mem_filter.1 h
 obtain ⟨n, rfl⟩ := rowL_mem h1
 have hk := kOf_range n
 have hr : 0 ≤ Int.tmod (kOf n) 12 ∧ Int.tmod (kOf n) 12 < 12 := by rw [Int.tmod_eq_emod_of_nonneg hk.1]; omega
 have hq : 0 ≤ wrap64 (Int.tdiv (kOf n) 12) ∧ wrap64 (Int.tdiv (kOf n) 12) < 100000 := by rw [Int.tdiv_eq_ediv_of_nonneg hk.1]; unfold wrap64; omega
 unfold boxOf at h2 ⊢
 generalize Int.tmod (kOf n) 12 = r at *
 generalize wrap64 (Int.tdiv (kOf n) 12) = q at *
 have e20 : 0 ≤ Int.tmod q 20 := by rw [Int.tmod_eq_emod_of_nonneg hq.1]; omega
 have e10 : 0 ≤ Int.tmod q 10 := by rw [Int.tmod_eq_emod_of_nonneg hq.1]; omega
 have e12 : 0 ≤ wrap64 (5 + Int.tmod q 12) := by rw [Int.tmod_eq_emod_of_nonneg hq.1]; unfold wrap64; omega
 unfold boxRQ at h2 ⊢
 split
 ·exact e20
 ·rename_i c1
  rw [if_neg c1] at h2
  split
  ·exact Int.le_refl 0
  ·rename_i c2
   rw [if_neg c2] at h2
   split
   ·show (0 : Int) ≤ 5; omega
   ·rename_i c3
    rw [if_neg c3] at h2
    split
    ·rename_i c4
     rw [if_pos c4] at h2
     simp at h2
    ·rename_i c4
     split
     ·exact e10
     ·exact e12
theorem FillFits : frisketlaw11_FillFits.Pure := by
 intro l0 a1 _ _ _ _
 have hn : 0 ≤ wrap64 (Int.tmod (IntKind.u64.wrap a1) 200) ∧ wrap64 (Int.tmod (IntKind.u64.wrap a1) 200) < 200 := by
  rw [IntKind.wrap_u64, Int.tmod_eq_emod_of_nonneg (by omega)]
  unfold wrap64
  omega
 have hl := rowL_len l0
 have hev : Ev (fun k => frisketlaw11_FillFits.f k l0 a1) true := by
  refine Ev.bind (⟨482, fun k hk => row_f l0 hk⟩) (Ev.bind (plain_l (rowL l0) (by omega) (rowL l0).length 0 [] (by omega) (Nat.zero_le _)) ?_)
  rw [List.nil_append, List.drop_zero]
  generalize hrow : (rowL l0).filter (fun x => !(x.f0 == 2)) = row
  have hrl : row.length ≤ 120 := by rw [← hrow]; exact Nat.le_trans (List.length_filter_le _ _) hl
  have hmem : ∀ x ∈ row, ∃ m, x = boxOf m := fun x hx => by rw [← hrow] at hx; exact rowL_mem (List.mem_filter.1 hx).1
  have hpos : ∀ x ∈ row, 0 ≤ x.f1 ∧ x.f1 ≤ 20 := fun x hx => by
   obtain ⟨m, rfl⟩ := hmem x hx
   have := (boxOf_ok m).2.2
   rw [← hrow] at hx
   exact ⟨plain_pos hx, this.2⟩
  have h6 : ∀ x ∈ row, x.f6.length ≤ 0 := fun x hx => by obtain ⟨m, rfl⟩ := hmem x hx; rw [(boxOf_ok m).2.1]; exact Nat.le_refl _
  have hfit : ∀ x ∈ row, Fit x := fun x hx => by
   obtain ⟨m, rfl⟩ := hmem x hx
   exact box_fit' m
  have hv : row.all validB = true := List.all_eq_true.2 (fun x hx => by obtain ⟨m, rfl⟩ := hmem x hx; exact (boxOf_ok m).1)
  have hb := fill_Break_ok row (wrap64 (Int.tmod (IntKind.u64.wrap a1) 200)) (wrap64 (Int.tmod (IntKind.u64.wrap a1) 200)) ⟨5, 0, 0, 0, ⟨#[]⟩, ⟨#[]⟩, []⟩ (by omega) hfit ⟨Nat.zero_le _, Nat.zero_le _, Nat.zero_le _⟩ (by kernel_rfl) hv ⟨hn.1, by omega⟩ ⟨hn.1, by omega⟩
  refine Ev.bind hb (ev_pos rfl ?_)
  have hlen := breakGo_len ⟨5, 0, 0, 0, ⟨#[]⟩, ⟨#[]⟩, []⟩ (row.length + 1) row (wrap64 (Int.tmod (IntKind.u64.wrap a1) 200)) (wrap64 (Int.tmod (IntKind.u64.wrap a1) 200))
  have hq := breakGo_all ⟨5, 0, 0, 0, ⟨#[]⟩, ⟨#[]⟩, []⟩ (fun x => (0 ≤ x.f1 ∧ x.f1 ≤ 20) ∧ x.f6.length ≤ 0) (fun y => y.length ≤ 1000 ∧ (∀ x ∈ y, x.f6.length ≤ 0) ∧ Fine (wrap64 (Int.tmod (IntKind.u64.wrap a1) 200)) y) (row.length + 1) row (wrap64 (Int.tmod (IntKind.u64.wrap a1) 200)) (wrap64 (Int.tmod (IntKind.u64.wrap a1) 200))
   (fun x hx => ⟨hpos x hx, h6 x hx⟩) (fun l' hl' hC => by
    obtain ⟨p1, p2, -, -⟩ := parts_take l' (wrap64 (Int.tmod (IntKind.u64.wrap a1) 200)) ⟨5, 0, 0, 0, ⟨#[]⟩, ⟨#[]⟩, []⟩
    have h := fine_line l' (wrap64 (Int.tmod (IntKind.u64.wrap a1) 200)) ⟨5, 0, 0, 0, ⟨#[]⟩, ⟨#[]⟩, []⟩ (by omega) (fun x hx => (hC x hx).1) rfl hn.1
    have h6' : ∀ x ∈ (takeL l' (wrap64 (Int.tmod (IntKind.u64.wrap a1) 200)) ⟨5, 0, 0, 0, ⟨#[]⟩, ⟨#[]⟩, []⟩).1, x.f6.length ≤ 0 := fun x hx => by
     rcases p2 x hx with h | rfl
     ·exact (hC x h).2
     ·exact Nat.le_refl _
    exact ⟨⟨by omega, h6', h⟩, ⟨by omega, h6', h⟩⟩)
  exact lines_l _ _ (by omega) hq (breakGo (row.length + 1) row (wrap64 (Int.tmod (IntKind.u64.wrap a1) 200)) (wrap64 (Int.tmod (IntKind.u64.wrap a1) 200)) ⟨5, 0, 0, 0, ⟨#[]⟩, ⟨#[]⟩, []⟩).length 0 (by omega)
 obtain ⟨K, hK⟩ := hev
 exact ⟨K, hK K (Nat.le_refl _)⟩
end Go.Proofs.Yteadghhmoggjnaa.Pure
end
