import Derived.Test.YteadghhmoggjnaaFA17
section
/- Plain law: a line that was full is taken as it was, when more boxes come behind a blank. -/
set_option linter.unusedVariables false
set_option linter.unusedSimpArgs false
namespace Go.Proofs.YteadghhmoggjnaaB
open Go.RowKit
open Go.Proofs.Yteadghhmoggjnaa.Q
open Go.Proofs.YteadghhmoggjnaaW.PrintWords Go.Proofs.YteadghhmoggjnaaW.PrintLast
set_option maxHeartbeats 1600000
theorem restL_app : ∀ (a X : List S33), ∃ t, restL (a ++ X) = restL a ++ t
 | [], X => ⟨restL X, rfl⟩
 | x :: r, X => by
  obtain ⟨t, ht⟩ := restL_app r X
  rw [List.cons_append, restL_cons, restL_cons]
  split
  ·exact ⟨t, ht⟩
  ·exact ⟨X, rfl⟩
theorem restL_app_ne : ∀ (a X : List S33), 0 < (restL a).length → restL (a ++ X) = restL a ++ X
 | [], X, h => by simp [restL] at h
 | x :: r, X, h => by
  rw [List.cons_append, restL_cons, restL_cons]
  rw [restL_cons] at h
  split
  ·rename_i hb
   rw [if_pos hb] at h
   exact restL_app_ne r X h
  ·rfl
theorem findIdx_app (b : S33) (hb : blankB b = true) (X : List S33) : ∀ a : List S33, (a ++ b :: X).findIdx blankB = a.findIdx blankB
 | [] => by rw [List.nil_append, List.findIdx_cons, hb]; rfl
 | x :: r => by
  rw [List.cons_append, List.findIdx_cons, List.findIdx_cons, findIdx_app b hb X r]
theorem find_congr {p q : Int → Bool} : ∀ {l : List Int}, (∀ x ∈ l, p x = q x) → l.find? p = l.find? q
 | [], _ => rfl
 | x :: r, h => by
  rw [List.find?_cons, List.find?_cons, h x List.mem_cons_self, find_congr (fun y hy => h y (List.mem_cons_of_mem _ hy))]
/-- The second answer goes on where the first one ended. -/
def Goes (a b : List S33 × List S33 × Bool) : Prop := b.1 = a.1 ∧ b.2.2 = a.2.2 ∧ ∃ t, b.2.1 = a.2.1 ++ t
section
variable (R : List S33) (b : S33) (X : List S33) (hb : blankB b = true) (len : Int) (h : S33)
include hb in
theorem beg_app (i : Nat) (hi : i < R.length) (hbR : begA R i ≠ R.length) : begA (R ++ b :: X) i = begA R i ∧ stopA (R ++ b :: X) i = stopA R i ∧ allA (R ++ b :: X) i = allA R i := by
 have hle := begA_le (row := R) (Nat.le_of_lt hi)
 have h1 := begA_len R (Nat.le_of_lt hi)
 have hd : (R ++ b :: X).drop i = R.drop i ++ b :: X := List.drop_append_of_le_length (Nat.le_of_lt hi)
 have h2 := begA_len (R ++ b :: X) (i := i) (by rw [List.length_append]; omega)
 rw [hd, restL_app_ne _ _ (by omega), List.length_append, List.length_append] at h2
 have e1 : begA (R ++ b :: X) i = begA R i := by omega
 have hd2 : (R ++ b :: X).drop (begA R i) = R.drop (begA R i) ++ b :: X := List.drop_append_of_le_length hle
 have e2 : stopA (R ++ b :: X) i = stopA R i := by
  unfold stopA
  rw [e1, hd2, findIdx_app b hb]
 refine ⟨e1, e2, ?_⟩
 unfold allA
 have hs := stopA_le (row := R) (Nat.le_of_lt hi)
 rw [e1, e2, hd2, List.take_append_of_le_length (by rw [List.length_drop]; omega)]
include hb in
theorem at_app (i : Nat) (hi : i < R.length) (hbR : begA R i ≠ R.length) : Goes (ansAt R len h i) (ansAt (R ++ b :: X) len h i) := by
 obtain ⟨e1, e2, e3⟩ := beg_app R b X hb i hi hbR
 have hle := begA_le (row := R) (Nat.le_of_lt hi)
 have hs := stopA_le (row := R) (Nat.le_of_lt hi)
 have hs2 := stopA_gt hi hbR
 have hyl : ((R.drop (begA R i)).take (stopA R i - begA R i)).length = stopA R i - begA R i := by rw [List.length_take, List.length_drop]; omega
 have hmem : ∀ p, p ∈ allA R i → begA R i + p.toNat + 1 < stopA R i := fun p hp => by
  obtain ⟨q, e, hq⟩ := placesL_mem hp
  have := brk_lt hq
  rw [hyl] at this
  subst e
  rw [Int.toNat_natCast]
  omega
 have hcut : ∀ p, p ∈ allA R i → cutL (R ++ b :: X) h i p = cutL R h i p := fun p hp => by
  have := hmem p hp
  unfold cutL
  rw [e1, List.take_append_of_le_length (by omega)]
 have hans : ∀ p, p ∈ allA R i → Goes (ansCut R h i p) (ansCut (R ++ b :: X) h i p) := fun p hp => by
  have hm := hmem p hp
  refine ⟨hcut p hp, rfl, ?_⟩
  show ∃ t, restL ((R ++ b :: X).drop (begA (R ++ b :: X) i + p.toNat + 1)) = restL (R.drop (begA R i + p.toNat + 1)) ++ t
  rw [e1, List.drop_append_of_le_length (by omega)]
  exact restL_app _ _
 have hfind : (allA R i).reverse.find? (fitsL (R ++ b :: X) len h i) = (allA R i).reverse.find? (fitsL R len h i) := find_congr (fun p hp => by
  unfold fitsL
  rw [hcut p (List.mem_reverse.1 hp)])
 unfold ansAt
 rw [e3, hfind]
 cases hfd : (allA R i).reverse.find? (fitsL R len h i) with
 | some p => exact hans p (List.mem_reverse.1 (List.mem_of_find?_eq_some hfd))
 | none =>
  show Goes (if 0 < i then _ else _) (if 0 < i then _ else _)
  by_cases h0 : 0 < i
  ·rw [if_pos h0, if_pos h0]
   refine ⟨List.take_append_of_le_length (Nat.le_of_lt hi), rfl, ?_⟩
   show ∃ t, restL ((R ++ b :: X).drop i) = restL (R.drop i) ++ t
   rw [List.drop_append_of_le_length (Nat.le_of_lt hi)]
   exact restL_app _ _
  ·rw [if_neg h0, if_neg h0]
   cases hp : (allA R i)[0]? with
   | some p => exact hans p (List.mem_of_getElem? hp)
   | none =>
    refine ⟨?_, rfl, ?_⟩
    ·show (R ++ b :: X).take (stopA (R ++ b :: X) i) = R.take (stopA R i)
     rw [e2, List.take_append_of_le_length hs]
    ·show ∃ t, restL ((R ++ b :: X).drop (stopA (R ++ b :: X) i)) = restL (R.drop (stopA R i)) ++ t
     rw [e2, List.drop_append_of_le_length hs]
     exact restL_app _ _
include hb in
theorem go_app : ∀ (f i f' : Nat), f ≤ f' → (takeGo R len h f i).2.2 = true → Goes (takeGo R len h f i) (takeGo (R ++ b :: X) len h f' i)
 | 0, i, f', _, hfull => by cases hfull
 | f + 1, i, f', hff, hfull => by
  obtain ⟨f', rfl⟩ : ∃ k, f' = k + 1 := ⟨f' - 1, by omega⟩
  unfold takeGo at hfull ⊢
  by_cases hi : i < R.length
  ·rw [if_pos hi] at hfull ⊢
   by_cases hbR : begA R i = R.length
   ·rw [if_pos hbR] at hfull
    cases hfull
   ·rw [if_neg hbR] at hfull ⊢
    obtain ⟨e1, e2, e3⟩ := beg_app R b X hb i hi hbR
    have hle := begA_le (row := R) (Nat.le_of_lt hi)
    have hs := stopA_le (row := R) (Nat.le_of_lt hi)
    have a1 : i < (R ++ b :: X).length := by rw [List.length_append]; omega
    have a2 : ¬ begA (R ++ b :: X) i = (R ++ b :: X).length := by rw [e1, List.length_append, List.length_cons]; omega
    rw [if_pos a1, if_neg a2, e2, List.take_append_of_le_length hs]
    by_cases hw : widthW (R.take (stopA R i)) ≤ len
    ·rw [if_pos hw] at hfull ⊢
     rw [if_pos hw]
     exact go_app f (stopA R i) f' (by omega) hfull
    ·rw [if_neg hw]
     rw [if_neg hw]
     exact at_app R b X hb len h i hi hbR
  ·rw [if_neg hi] at hfull
   cases hfull
end
theorem takeL_again (l : List S33) (b : S33) (hb : blankB b = true) (X : List S33) (len : Int) (h : S33) (hfull : (takeL l len h).2.2 = true) : Goes (takeL l len h) (takeL (l ++ b :: X) len h) := by
 have hr : 0 < (restL l).length := by
  rcases Nat.eq_zero_or_pos (restL l).length with h0 | h0
  ·have : restL l = [] := List.eq_nil_of_length_eq_zero h0
   unfold takeL at hfull
   rw [this] at hfull
   cases hfull
  ·exact h0
 unfold takeL at hfull ⊢
 rw [restL_app_ne l (b :: X) hr]
 exact go_app (restL l) b X hb len h ((restL l).length + 1) 0 _ (by rw [List.length_append]; omega) hfull
theorem go_rest (R : List S33) (len : Int) (h : S33) : ∀ f i, (takeGo R len h f i).2.2 = false → (takeGo R len h f i).2.1 = []
 | 0, i, _ => rfl
 | f + 1, i, hf => by
  unfold takeGo at hf ⊢
  split at hf
  ·rename_i hi
   rw [if_pos hi]
   split at hf
   ·rename_i hb
    rw [if_pos hb]
   ·rename_i hb
    rw [if_neg hb]
    split at hf
    ·rename_i hw
     rw [if_pos hw]
     exact go_rest R len h f _ hf
    ·exfalso
     have : (ansAt R len h i).2.2 = true := by
      unfold ansAt
      split
      ·rfl
      ·split
       ·rfl
       ·split <;> rfl
     rw [this] at hf
     cases hf
  ·rename_i hi
   rw [if_neg hi]
theorem takeL_rest (l : List S33) (len : Int) (h : S33) (hf : (takeL l len h).2.2 = false) : (takeL l len h).2.1 = [] := go_rest (restL l) len h _ 0 hf
end Go.Proofs.YteadghhmoggjnaaB
end
