import Derived.Test.YteadghhmoggjnaaFR23
set_option linter.unusedVariables false
set_option linter.unusedSimpArgs false
section
namespace Go.Proofs.YteadghhmoggjnaaB
open Go.RowKit
open Go.Proofs.Yteadghhmoggjnaa.Q
open Go.Proofs.YteadghhmoggjnaaW.PrintWords Go.Proofs.YteadghhmoggjnaaW.PrintLast
set_option maxHeartbeats 1600000
theorem toList_data (s : ByteArray) : s.toList = s.data.toList := by
 have h : ∀ (n i : Nat) (r : List UInt8), s.size - i = n → ByteArray.toList.loop s i r = r.reverse ++ s.data.toList.drop i := by
  intro n
  induction n with
  | zero =>
   intro i r h
   unfold ByteArray.toList.loop
   rw [if_neg (by omega), List.drop_eq_nil_of_le (by show s.data.size ≤ i; have : s.size = s.data.size := rfl; omega), List.append_nil]
  | succ n ih =>
   intro i r h
   unfold ByteArray.toList.loop
   have hi : i < s.data.toList.length := by show i < s.data.size; have : s.size = s.data.size := rfl; omega
   rw [if_pos (by omega), ih (i + 1) _ (by omega), List.drop_eq_getElem_cons hi, List.reverse_cons, List.append_assoc]
   congr 1
   show s.get! i :: _ = _
   congr 1
   have hi2 : i < s.data.size := hi
   show s.data.getD i default = _
   rw [Array.getD, dif_pos hi2]
   rfl
 have := h _ 0 [] rfl
 rw [List.drop_zero] at this
 simpa [ByteArray.toList] using this
theorem bt_at (s : ByteArray) (i : Nat) (h : i < s.size) : bt s (i : Int) = ((s[i]'h).toNat : Int) := by
 unfold bt
 rw [dif_pos (by rw [Int.toNat_natCast]; exact h)]
 rfl
theorem drop_bytes (s : ByteArray) (i : Nat) (h : i < s.size) : s.data.toList.drop i = s[i]'h :: s.data.toList.drop (i + 1) := by
 have hi : i < s.data.toList.length := h
 rw [List.drop_eq_getElem_cons hi]
 rfl
theorem ref_IsName_l (s : ByteArray) (hs : s.size ≤ 17592186044415000) : ∀ (d i : Nat), i + d = s.size → Ev (fun k => s_IsName.l0 k s (i : Int)) ((s.data.toList.drop i).all goodB && (decide (1 ≤ s.size) && decide (s.size ≤ 10)))
 | 0, i, h => by
  have e : (s.data.toList.drop i).all goodB = true := by rw [List.drop_eq_nil_of_le (by show s.size ≤ i; omega)]; rfl
  rw [e, Bool.true_and]
  refine Ev.step (fun k => by rw [s_IsName.l0]) (ev_neg (by omega) ?_)
  by_cases h1 : 1 ≤ s.size
  ·refine ev_pos (by omega) (ev_now ?_)
   rw [decide_eq_true h1, Bool.true_and, decide_eq_decide]
   omega
  ·refine ev_neg (by omega) (ev_now ?_)
   rw [decide_eq_false h1, Bool.false_and]
 | d + 1, i, h => by
  have hi : i < s.size := by omega
  refine Ev.step (fun k => by rw [s_IsName.l0]) (ev_pos (by omega) (ev_pos (by omega) ?_))
  rw [bt_at s i hi, drop_bytes s i hi, List.all_cons]
  unfold goodB
  by_cases h1 : ((s[i]'hi).toNat : Int) < 33
  ·refine ev_pos h1 (ev_now ?_)
   rw [decide_eq_false (by omega : ¬ 33 ≤ (s[i]'hi).toNat)]
   rfl
  ·refine ev_neg h1 ?_
   rw [decide_eq_true (by omega : 33 ≤ (s[i]'hi).toNat)]
   by_cases h2 : ((s[i]'hi).toNat : Int) > 126
   ·refine ev_pos h2 (ev_now ?_)
    rw [decide_eq_false (by omega : ¬ (s[i]'hi).toNat ≤ 126)]
    rfl
   ·refine ev_neg h2 ?_
    rw [decide_eq_true (by omega : (s[i]'hi).toNat ≤ 126), Bool.true_and, Bool.true_and, w64_id (by omega) (by omega)]
    exact ref_IsName_l s hs d (i + 1) (by omega)
theorem ref_IsName (s : ByteArray) (hs : s.size ≤ 17592186044415000) : Ev (fun k => s_IsName.f k s) (namedB s) := by
 have h := ref_IsName_l s hs s.size 0 (by omega)
 rw [List.drop_zero] at h
 have e : namedB s = (s.data.toList.all goodB && (decide (1 ≤ s.size) && decide (s.size ≤ 10))) := by
  unfold namedB
  cases decide (1 ≤ s.size) <;> cases decide (s.size ≤ 10) <;> cases s.data.toList.all goodB <;> rfl
 rw [e]
 exact h
theorem ref_colour_l (s : ByteArray) (hs : s.size ≤ 17592186044415000) : ∀ (d i : Nat), i + d = s.size → Ev (fun k => s_colour.l0 k s (i : Int)) ((s.data.toList.drop i).all goodB && decide (s.size ≤ 20))
 | 0, i, h => by
  have e : (s.data.toList.drop i).all goodB = true := by rw [List.drop_eq_nil_of_le (by show s.size ≤ i; omega)]; rfl
  rw [e, Bool.true_and]
  refine Ev.step (fun k => by rw [s_colour.l0]) (ev_neg (by omega) (ev_now ?_))
  rw [decide_eq_decide]
  omega
 | d + 1, i, h => by
  have hi : i < s.size := by omega
  refine Ev.step (fun k => by rw [s_colour.l0]) (ev_pos (by omega) (ev_pos (by omega) ?_))
  rw [bt_at s i hi, drop_bytes s i hi, List.all_cons]
  unfold goodB
  by_cases h1 : ((s[i]'hi).toNat : Int) < 33
  ·refine ev_pos h1 (ev_now ?_)
   rw [decide_eq_false (by omega : ¬ 33 ≤ (s[i]'hi).toNat)]
   rfl
  ·refine ev_neg h1 ?_
   rw [decide_eq_true (by omega : 33 ≤ (s[i]'hi).toNat)]
   by_cases h2 : ((s[i]'hi).toNat : Int) > 126
   ·refine ev_pos h2 (ev_now ?_)
    rw [decide_eq_false (by omega : ¬ (s[i]'hi).toNat ≤ 126)]
    rfl
   ·refine ev_neg h2 ?_
    rw [decide_eq_true (by omega : (s[i]'hi).toNat ≤ 126), Bool.true_and, Bool.true_and, w64_id (by omega) (by omega)]
    exact ref_colour_l s hs d (i + 1) (by omega)
theorem ref_colour (s : ByteArray) (hs : s.size ≤ 17592186044415000) : Ev (fun k => s_colour.f k s) (colourB s) := by
 have h := ref_colour_l s hs s.size 0 (by omega)
 rw [List.drop_zero] at h
 unfold colourB
 rw [Bool.and_comm]
 exact h
theorem ref_Valid_l0 (x : S33) (hx : x.f6.length ≤ 17592186044415) (hs : x.f5.size ≤ 17592186044415000) : ∀ (d i : Nat) (b : Bool), i + d = x.f6.length →
  Ev (fun k => s_Valid.l0 k b (i : Int) x.f0 x.f1 x.f2 x.f3 x.f4 x.f5 x.f6) (b && allI farV (x.f6.drop i) && (colourB x.f5 && ((x.f2 == 0) && (x.f3 == 0))))
 | 0, i, b, h => by
  have e : allI farV (x.f6.drop i) = true := by rw [List.drop_eq_nil_of_le (by omega)]; rfl
  rw [e, Bool.and_true]
  refine Ev.step (fun k => by rw [s_Valid.l0]) (ev_neg (by omega) ?_)
  cases b
  ·exact ev_neg (by decide) (ev_now rfl)
  ·refine ev_pos rfl (Ev.bind (ref_colour x.f5 hs) ?_)
   cases colourB x.f5
   ·exact ev_neg (by decide) (ev_now rfl)
   ·refine ev_pos rfl ?_
    by_cases h2 : x.f2 = 0
    ·rw [h2]
     exact ev_pos rfl (ev_now (by simp))
    ·exact ev_neg h2 (ev_now (by rw [beq_eq_false_iff_ne.2 h2]; rfl))
 | d + 1, i, b, h => by
  have hi : i < x.f6.length := by omega
  have hx6 : x.f6[i]? = some x.f6[i] := List.getElem?_eq_getElem hi
  refine Ev.step (fun k => by rw [s_Valid.l0]) (ev_pos (by omega) ?_)
  rw [rd_at hx6, w64_suc (by omega), List.drop_eq_getElem_cons hi]
  have e : allI farV (x.f6[i] :: x.f6.drop (i + 1)) = (!(farV x.f6[i]) && allI farV (x.f6.drop (i + 1))) := rfl
  rw [e]
  cases b
  ·refine ev_neg (by decide) ?_
   have ih := ref_Valid_l0 x hx hs d (i + 1) false (by omega)
   rw [Bool.false_and, Bool.false_and] at ih ⊢
   exact ih
  ·refine ev_pos rfl (ev_pos (by omega) ?_)
   rw [Bool.true_and]
   unfold farV
   by_cases h1 : x.f6[i] ≥ -1000000
   ·refine ev_pos h1 ?_
    rw [decide_eq_false (by omega : ¬ x.f6[i] < -1000000), Bool.false_or]
    have ih := ref_Valid_l0 x hx hs d (i + 1) (decide (x.f6[i] ≤ 1000000)) (by omega)
    have e2 : (!(decide (1000000 < x.f6[i]))) = decide (x.f6[i] ≤ 1000000) := by
     by_cases h2 : x.f6[i] ≤ 1000000
     ·rw [decide_eq_true h2, decide_eq_false (by omega)]; rfl
     ·rw [decide_eq_false h2, decide_eq_true (by omega)]; rfl
    rw [e2]
    exact ih
   ·refine ev_neg h1 ?_
    rw [decide_eq_true (by omega : x.f6[i] < -1000000), Bool.true_or]
    have ih := ref_Valid_l0 x hx hs d (i + 1) false (by omega)
    rw [Bool.false_and, Bool.false_and] at ih
    exact ih
theorem toList_one (s : ByteArray) (b : UInt8) (h : s.toList = [b]) : s.size = 1 := by
 rw [toList_data] at h
 have := congrArg List.length h
 exact this
theorem ref_Valid_j4 (x : S33) (hx : x.f6.length ≤ 17592186044415) (hs : x.f5.size ≤ 17592186044415000) (b : Bool) :
  Ev (fun k => s_Valid.j4 k b x.f0 x.f1 x.f2 x.f3 x.f4 x.f5 x.f6) (b && allI farV x.f6 && (colourB x.f5 && ((x.f2 == 0) && (x.f3 == 0)))) := by
 have h := ref_Valid_l0 x hx hs x.f6.length 0 b (by omega)
 rw [List.drop_zero] at h
 exact Ev.step (fun k => by rw [s_Valid.j4]; rfl) h
def strokeT (s : ByteArray) : Bool := (s.toList == [108]) || (s.toList == [99]) || (s.toList == [101]) || (s.toList == [97]) || (s.toList == [126])
theorem strokeT_eq (s : ByteArray) : ((s.size == 1) && strokeB s) = strokeT s := by
 unfold strokeB strokeT
 rw [← toList_data]
 cases hst : ((s.toList == [108]) || (s.toList == [99]) || (s.toList == [101]) || (s.toList == [97]) || (s.toList == [126]))
 ·exact Bool.and_false _
 ·rw [Bool.and_true]
  simp only [Bool.or_eq_true, beq_iff_eq] at hst
  rcases hst with (((h | h) | h) | h) | h <;> rw [toList_one s _ h] <;> rfl
theorem ref_Valid_j3 (x : S33) (hx : x.f6.length ≤ 17592186044415) (hs : x.f5.size ≤ 17592186044415000) (p q c : Bool) (hc : c = (x.f0 == 2 || x.f0 == 6)) :
  Ev (fun k => s_Valid.j3 k p q x.f0 c x.f0 x.f1 x.f2 x.f3 x.f4 x.f5 x.f6)
   (if x.f0 = 2 ∨ x.f0 = 6 ∨ x.f0 = 3 then p && q else if x.f0 = 4 then (decide (x.f6.length ≤ 40) && strokeT x.f4) && allI farV x.f6 && (colourB x.f5 && ((x.f2 == 0) && (x.f3 == 0))) else if x.f0 = 5 then p && (q && (x.f1 == 0)) else false) := by
 refine Ev.step (fun k => by rw [s_Valid.j3]) ?_
 by_cases h26 : x.f0 = 2 ∨ x.f0 = 6
 ·have : c = true := by rw [hc]; rcases h26 with h | h <;> rw [h] <;> rfl
  rw [if_pos (by omega : x.f0 = 2 ∨ x.f0 = 6 ∨ x.f0 = 3)]
  refine ev_pos this ?_
  cases p
  ·exact ev_neg (by decide) (ev_now rfl)
  ·exact ev_pos rfl (ev_now rfl)
 ·have : c = false := by rw [hc, beq_eq_false_iff_ne.2 (fun e => h26 (.inl e)), beq_eq_false_iff_ne.2 (fun e => h26 (.inr e))]; rfl
  refine ev_neg (by rw [this]; decide) ?_
  by_cases h3 : x.f0 = 3
  ·rw [if_pos (by omega : x.f0 = 2 ∨ x.f0 = 6 ∨ x.f0 = 3)]
   refine ev_pos h3 ?_
   cases p
   ·exact ev_neg (by decide) (ev_now rfl)
   ·exact ev_pos rfl (ev_now rfl)
  ·rw [if_neg (by omega : ¬ (x.f0 = 2 ∨ x.f0 = 6 ∨ x.f0 = 3))]
   refine ev_neg h3 ?_
   by_cases h4 : x.f0 = 4
   ·refine ev_pos h4 ?_
    rw [if_pos h4]
    by_cases hl : x.f6.length ≤ 40
    ·rw [decide_eq_true hl, Bool.true_and]
     refine ev_pos (by omega) ?_
     have hj := fun b => ref_Valid_j4 x hx hs b
     unfold strokeT
     by_cases a1 : x.f4.toList = [108]
     ·refine ev_pos a1 ?_
      rw [a1]; exact hj true
     ·refine ev_neg a1 ?_
      rw [beq_eq_false_iff_ne.2 a1, Bool.false_or]
      by_cases a2 : x.f4.toList = [99]
      ·refine ev_pos a2 ?_
       rw [a2]; exact hj true
      ·refine ev_neg a2 ?_
       rw [beq_eq_false_iff_ne.2 a2, Bool.false_or]
       by_cases a3 : x.f4.toList = [101]
       ·refine ev_pos a3 ?_
        rw [a3]; exact hj true
       ·refine ev_neg a3 ?_
        rw [beq_eq_false_iff_ne.2 a3, Bool.false_or]
        by_cases a4 : x.f4.toList = [97]
        ·refine ev_pos a4 ?_
         rw [a4]; exact hj true
        ·refine ev_neg a4 ?_
         rw [beq_eq_false_iff_ne.2 a4, Bool.false_or]
         exact hj _
    ·refine ev_neg (by omega) ?_
     rw [decide_eq_false hl, Bool.false_and]
     exact ref_Valid_j4 x hx hs false
   ·refine ev_neg h4 ?_
    rw [if_neg h4]
    by_cases h5 : x.f0 = 5
    ·refine ev_pos h5 ?_
     rw [if_pos h5]
     cases p
     ·exact ev_neg (by decide) (ev_now rfl)
     ·refine ev_pos rfl ?_
      cases q
      ·exact ev_neg (by decide) (ev_now rfl)
      ·exact ev_pos rfl (ev_now rfl)
    ·refine ev_neg h5 (ev_now ?_)
     rw [if_neg h5]
theorem ref_Valid_j2 (x : S33) (hx : x.f6.length ≤ 17592186044415) (hs : x.f5.size ≤ 17592186044415000) (hs4 : x.f4.size ≤ 17592186044415000) (p q : Bool) :
  Ev (fun k => s_Valid.j2 k p q x.f0 x.f1 x.f2 x.f3 x.f4 x.f5 x.f6)
   (if x.f0 = 0 then namedB x.f4 && (colourB x.f5 && (x.f6.length == 0)) else if x.f0 = 1 then p && ((x.f4.toList == []) || (x.f4.toList == [126])) else
    if x.f0 = 2 ∨ x.f0 = 6 ∨ x.f0 = 3 then p && q else if x.f0 = 4 then (decide (x.f6.length ≤ 40) && strokeT x.f4) && allI farV x.f6 && (colourB x.f5 && ((x.f2 == 0) && (x.f3 == 0))) else if x.f0 = 5 then p && (q && (x.f1 == 0)) else false) := by
 have hlen : ((x.f6.length : Int) == 0) = (x.f6.length == 0) := by
  cases h : (x.f6.length == 0)
  ·rw [beq_eq_false_iff_ne] at h ⊢; omega
  ·rw [beq_iff_eq] at h ⊢; omega
 refine Ev.step (fun k => by rw [s_Valid.j2]) ?_
 by_cases h0 : x.f0 = 0
 ·refine ev_pos h0 (Ev.bind (ref_IsName x.f4 hs4) ?_)
  rw [if_pos h0]
  cases namedB x.f4
  ·exact ev_neg (by decide) (ev_now rfl)
  ·refine ev_pos rfl (Ev.bind (ref_colour x.f5 hs) ?_)
   cases colourB x.f5
   ·exact ev_neg (by decide) (ev_now rfl)
   ·exact ev_pos rfl (ev_now hlen)
 ·refine ev_neg h0 ?_
  rw [if_neg h0]
  by_cases h1 : x.f0 = 1
  ·refine ev_pos h1 ?_
   rw [if_pos h1]
   cases p
   ·exact ev_neg (by decide) (ev_now rfl)
   ·refine ev_pos rfl ?_
    by_cases h4 : x.f4.toList = []
    ·refine ev_pos h4 (ev_now ?_)
     rw [h4]; rfl
    ·refine ev_neg h4 (ev_now ?_)
     rw [beq_eq_false_iff_ne.2 h4]; rfl
  ·refine ev_neg h1 ?_
   rw [if_neg h1]
   by_cases h2 : x.f0 = 2
   ·refine ev_pos h2 ?_
    exact ref_Valid_j3 x hx hs p q _ (by rw [h2]; rfl)
   ·refine ev_neg h2 ?_
    exact ref_Valid_j3 x hx hs p q _ (by rw [beq_eq_false_iff_ne.2 h2]; rfl)
theorem ref_Valid (x : S33) (hx : x.f6.length ≤ 17592186044415) (hs : x.f5.size ≤ 17592186044415000) (hs4 : x.f4.size ≤ 17592186044415000) : Ev (fun k => s_Valid.f k x.f0 x.f1 x.f2 x.f3 x.f4 x.f5 x.f6) (validB x) := by
  have hlen : ((x.f6.length : Int) == 0) = (x.f6.length == 0) := by
    cases h : (x.f6.length == 0)
    · rw [beq_eq_false_iff_ne] at h ⊢; omega
    · rw [beq_iff_eq] at h ⊢; omega
  have hbad : x.f1 < -1000000 ∨ 1000000 < x.f1 ∨ x.f2 < 0 ∨ x.f3 < 0 → validB x = false := fun h => by
    unfold validB
    rcases h with h | h | h | h <;> rw [decide_eq_true h] <;> simp
  have hj0 : (x.f1 < -1000000 ∨ 1000000 < x.f1 ∨ x.f2 < 0 ∨ x.f3 < 0) → Ev (fun k => s_Valid.j0 k true x.f0 x.f1 x.f2 x.f3 x.f4 x.f5 x.f6) (validB x) := fun h => by
    rw [hbad h]
    exact Ev.step (fun k => by rw [s_Valid.j0]) (ev_pos rfl (ev_now rfl))
  show Ev (fun k => if x.f1 < (-1000000) then _ else _) _
  by_cases h1 : x.f1 < -1000000
  · exact ev_pos h1 (hj0 (.inl h1))
  · refine ev_neg h1 ?_
    by_cases h2 : x.f1 > 1000000
    · exact ev_pos h2 (hj0 (.inr (.inl h2)))
    · refine ev_neg h2 ?_
      by_cases h3 : x.f2 < 0
      · exact ev_pos h3 (hj0 (.inr (.inr (.inl h3))))
      · refine ev_neg h3 ?_
        by_cases h4 : x.f3 < 0
        · rw [decide_eq_true h4]
          exact hj0 (.inr (.inr (.inr h4)))
        · rw [decide_eq_false h4]
          refine Ev.step (fun k => by rw [s_Valid.j0]) (ev_neg (by decide) ?_)
          have hj2 := fun p q => ref_Valid_j2 x hx hs hs4 p q
          have hv : validB x = (colourB x.f5 && (if x.f0 = 0 then namedB x.f4 && (x.f6.length == 0)
   else if x.f0 = 1 then ((x.f4.toList == []) || (x.f4.toList == [126])) && (x.f5.toList == []) && (x.f6.length == 0)
   else if x.f0 = 4 then (x.f2 == 0) && (x.f3 == 0) && (x.f4.size == 1) && strokeB x.f4 && decide (x.f6.length ≤ 40) && allI farV x.f6
   else if x.f0 = 5 then bareB x && (x.f4.toList == []) && (x.f1 == 0)
   else if x.f0 = 2 ∨ x.f0 = 3 ∨ x.f0 = 6 then bareB x && (x.f4.toList == [])
   else false)) := by
            unfold validB
            rw [decide_eq_false h1, decide_eq_false h2, decide_eq_false h3, decide_eq_false h4]
            simp
          have hcol : x.f5.toList = [] → colourB x.f5 = true := fun h => by
            rw [toList_data] at h
            unfold colourB
            rw [h]
            have : x.f5.size = 0 := congrArg List.length h
            rw [this]
            rfl
          have key : ∀ p q, p = ((x.f5.toList == []) && (x.f6.length == 0)) → q = ((x.f2 == 0) && ((x.f3 == 0) && (x.f4.toList == []))) →
              (if x.f0 = 0 then namedB x.f4 && (colourB x.f5 && (x.f6.length == 0)) else if x.f0 = 1 then p && ((x.f4.toList == []) || (x.f4.toList == [126])) else
        if x.f0 = 2 ∨ x.f0 = 6 ∨ x.f0 = 3 then p && q else if x.f0 = 4 then (decide (x.f6.length ≤ 40) && strokeT x.f4) && allI farV x.f6 && (colourB x.f5 && ((x.f2 == 0) && (x.f3 == 0))) else if x.f0 = 5 then p && (q && (x.f1 == 0)) else false) = validB x := by
            intro p q hp hq
            rw [hv, hp, hq]
            have hpc : (colourB x.f5 && (x.f5.toList == [])) = (x.f5.toList == []) := by
              cases hb : (x.f5.toList == [])
              · exact Bool.and_false _
              · rw [hcol (beq_iff_eq.1 hb)]; rfl
            by_cases g0 : x.f0 = 0
            · rw [if_pos g0, if_pos g0]
              cases namedB x.f4 <;> cases colourB x.f5 <;> rfl
            · rw [if_neg g0, if_neg g0]
              by_cases g1 : x.f0 = 1
              · rw [if_pos g1, if_pos g1]
                revert hpc
                cases colourB x.f5 <;> cases (x.f5.toList == []) <;> cases (x.f6.length == 0) <;> cases ((x.f4.toList == []) || (x.f4.toList == [126])) <;> intro hpc <;> first | rfl | (exact absurd hpc (by decide))
              · rw [if_neg g1, if_neg g1]
                by_cases g4 : x.f0 = 4
                · rw [if_neg (by omega : ¬ (x.f0 = 2 ∨ x.f0 = 6 ∨ x.f0 = 3)), if_pos g4, if_pos g4, ← strokeT_eq]
                  cases colourB x.f5 <;> cases (x.f2 == 0) <;> cases (x.f3 == 0) <;> cases (x.f4.size == 1) <;> cases strokeB x.f4 <;> cases decide (x.f6.length ≤ 40) <;> cases allI farV x.f6 <;> rfl
                · rw [if_neg g4, if_neg g4]
                  unfold bareB
                  by_cases g5 : x.f0 = 5
                  · rw [if_neg (by omega : ¬ (x.f0 = 2 ∨ x.f0 = 6 ∨ x.f0 = 3)), if_pos g5, if_pos g5]
                    revert hpc
                    cases colourB x.f5 <;> cases (x.f5.toList == []) <;> cases (x.f6.length == 0) <;> cases (x.f2 == 0) <;> cases (x.f3 == 0) <;> cases (x.f4.toList == []) <;> cases (x.f1 == 0) <;> intro hpc <;> first | rfl | (exact absurd hpc (by decide))
                  · rw [if_neg g5, if_neg g5]
                    by_cases g2 : x.f0 = 2 ∨ x.f0 = 3 ∨ x.f0 = 6
                    · rw [if_pos (by omega : x.f0 = 2 ∨ x.f0 = 6 ∨ x.f0 = 3), if_pos g2]
                      revert hpc
                      cases colourB x.f5 <;> cases (x.f5.toList == []) <;> cases (x.f6.length == 0) <;> cases (x.f2 == 0) <;> cases (x.f3 == 0) <;> cases (x.f4.toList == []) <;> intro hpc <;> first | rfl | (exact absurd hpc (by decide))
                    · rw [if_neg (by omega : ¬ (x.f0 = 2 ∨ x.f0 = 6 ∨ x.f0 = 3)), if_neg g2, Bool.and_false]
          have hj1 : ∀ p, p = ((x.f5.toList == []) && (x.f6.length == 0)) → Ev (fun k => s_Valid.j1 k p x.f0 x.f1 x.f2 x.f3 x.f4 x.f5 x.f6) (validB x) := fun p hp => by
            refine Ev.step (fun k => by rw [s_Valid.j1]) ?_
            by_cases g2 : x.f2 = 0
            · refine ev_pos g2 ?_
              by_cases g3 : x.f3 = 0
              · refine ev_pos g3 ?_
                rw [← key p (x.f4.toList == []) hp (by rw [g2, g3]; rfl)]
                exact hj2 _ _
              · refine ev_neg g3 ?_
                rw [← key p false hp (by rw [beq_eq_false_iff_ne.2 g3, Bool.false_and, Bool.and_false])]
                exact hj2 _ _
            · refine ev_neg g2 ?_
              rw [← key p false hp (by rw [beq_eq_false_iff_ne.2 g2, Bool.false_and])]
              exact hj2 _ _
          by_cases g5 : x.f5.toList = []
          · refine ev_pos g5 (hj1 _ ?_)
            rw [hlen, g5]; rfl
          · refine ev_neg g5 (hj1 _ ?_)
            rw [beq_eq_false_iff_ne.2 g5, Bool.false_and]
def Fit (x : S33) : Prop := x.f6.length ≤ 17592186044415 ∧ x.f5.size ≤ 17592186044415000 ∧ x.f4.size ≤ 17592186044415000
theorem ref_check_l (l : List S33) (hl : l.length ≤ 1000000) (hf : ∀ x ∈ l, Fit x) : ∀ (d i : Nat), i + d = l.length →
  Ev (fun k => r_check.l0 k l (i : Int)) (if (l.drop i).all validB = true then (if 5000 < l.length then 2 else 0) else 1)
 | 0, i, h => by
  rw [List.drop_eq_nil_of_le (by omega), if_pos (show ([] : List S33).all validB = true from rfl)]
  refine Ev.step (fun k => by rw [r_check.l0]) (ev_neg (by omega) ?_)
  by_cases h5 : 5000 < l.length
  ·rw [if_pos h5]; exact ev_pos (by omega) (ev_now rfl)
  ·rw [if_neg h5]; exact ev_neg (by omega) (ev_now rfl)
 | d + 1, i, h => by
  have hi : i < l.length := by omega
  have hx : l[i]? = some l[i] := List.getElem?_eq_getElem hi
  have hfx := hf l[i] (List.getElem_mem hi)
  rw [List.drop_eq_getElem_cons hi, List.all_cons]
  refine Ev.step (fun k => by rw [r_check.l0]) (ev_pos (by omega) (ev_pos (by omega) ?_))
  rw [rdT_at hx, w64_succ (by omega)]
  refine Ev.bind (ref_Valid l[i] hfx.1 hfx.2.1 hfx.2.2) ?_
  cases validB l[i]
  ·exact ev_neg (by decide) (ev_now rfl)
  ·refine ev_pos rfl ?_
   rw [Bool.true_and]
   exact ref_check_l l hl hf d (i + 1) (by omega)
theorem ref_check (l : List S33) (hl : l.length ≤ 1000000) (hf : ∀ x ∈ l, Fit x) : Ev (fun k => r_check.f k l) (if l.all validB = true then (if 5000 < l.length then 2 else 0) else 1) := by
 have h := ref_check_l l hl hf l.length 0 (by omega)
 rw [List.drop_zero] at h
 exact h
def hyphB (h : S33) : Bool := validB h && ((h.f0 == 0) || (h.f0 == 5))
theorem hyphB_kind {h : S33} (hh : hyphB h = true) : h.f0 = 0 ∨ h.f0 = 5 := by
 unfold hyphB at hh
 simp only [Bool.and_eq_true, Bool.or_eq_true, beq_iff_eq] at hh
 exact hh.2
theorem ref_hyph (h : S33) (hf : Fit h) : Ev (fun k => r_isHyphen.f k h.f0 h.f1 h.f2 h.f3 h.f4 h.f5 h.f6) (hyphB h) := by
 unfold hyphB
 refine Ev.bind (ref_Valid h hf.1 hf.2.1 hf.2.2) ?_
 cases validB h
 ·exact ev_neg (by decide) (ev_now rfl)
 ·refine ev_pos rfl ?_
  by_cases h0 : h.f0 = 0
  ·rw [h0]; exact ev_pos rfl (ev_now rfl)
  ·rw [beq_eq_false_iff_ne.2 h0]; exact ev_neg h0 (ev_now rfl)
theorem fill_hyph (h : S33) : fill_hyphens.f h.f0 h.f1 h.f2 h.f3 h.f4 h.f5 h.f6 = some (hyphB h) := by
 unfold fill_hyphens.f glyph_Valid.f hyphB
 rw [Option.bind_some]
 cases validB h
 ·exact if_neg (by decide)
 ·rw [if_pos rfl]
  by_cases h0 : h.f0 = 0
  ·rw [h0]; rfl
  ·rw [if_neg h0, beq_eq_false_iff_ne.2 h0]; rfl
end Go.Proofs.YteadghhmoggjnaaB
end
