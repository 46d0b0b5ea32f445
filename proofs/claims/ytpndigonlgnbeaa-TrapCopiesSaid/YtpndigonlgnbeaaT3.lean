/- The pieces of slices.SortStableFunc at traps: the comparison, an exchange of two parts, a rotation. -/
import Derived.Test.YtpndigonlgnbeaaT2
import Derived.Test.YtpndigonlgnbeaaTSort
set_option linter.unusedVariables false
set_option linter.unusedSimpArgs false
namespace Go.Proofs.Ytpndigonlgnbeaa
open Go.RowKit
set_option maxHeartbeats 400000

/-- What cmp.Compare says. -/
def cmpI (a b : Int) : Int := if a < b then -1 else if b < a then 1 else 0
theorem cmpI_lt {a b : Int} : cmpI a b < 0 ↔ a < b := by
  unfold cmpI
  split
  · simp [*]
  · split <;> simp [*]
theorem Compare_any (a b : Int) (w : World) : Calls Try.prog 29 #[.int .i64 a, .int .i64 b] w fun e w' => e = .returned (.int .i64 (cmpI a b)) ∧ w = w' := by
  rcases (show a < b ∨ b < a ∨ a = b from by omega) with h | h | h
  · have e := hide (show cmpI a b = -1 by unfold cmpI; rw [if_pos h])
    go_enter Try.func29, Try.ntmps29
    go_wp2
    go_ret
    exact ⟨ret_int e.out.symm, rfl⟩
  · have e := hide (show cmpI a b = 1 by unfold cmpI; rw [if_neg (by omega), if_pos h])
    have h2 : b ≤ a := by omega
    go_enter Try.func29, Try.ntmps29
    go_wp2
    go_ret
    exact ⟨ret_int e.out.symm, rfl⟩
  · subst h
    have e := hide (show cmpI a a = 0 by unfold cmpI; rw [if_neg (by omega), if_neg (by omega)])
    go_enter Try.func29, Try.ntmps29
    go_wp2
    go_ret
    exact ⟨ret_int e.out.symm, rfl⟩
theorem cmp_any (x y : TrapT) (w : World) : Calls Try.prog 28 #[.agg #[.int .i64 x.at_, .string x.nm], .agg #[.int .i64 y.at_, .string y.nm]] w fun e w' => e = .returned (.int .i64 (cmpI x.at_ y.at_)) ∧ Below w.heap.size w w' := by
  go_enter Try.func28, Try.ntmps28
  go_wp2_with (go_at_call 29; refine (Compare_any _ _ _).mono ?_; rintro e w' ⟨rfl, rfl⟩)
  go_ret
  exact ⟨rfl, ((Below.refl _ _).alloc (Nat.le_refl _) _).alloc (by simp) _⟩

/-- Two elements, x at i and y at j, change places. -/
def swp2 {α : Type} (q : List α) (i j : Nat) (x y : α) : List α := (q.set i y).set j x
theorem swp2_get {α : Type} (q : List α) (i j : Nat) (x y : α) (hi : i < q.length) (hj : j < q.length) (hij : i ≠ j) (k : Nat) : (swp2 q i j x y)[k]? = if k = i then some y else if k = j then some x else q[k]? := by
  unfold swp2
  rw [List.getElem?_set]
  by_cases h1 : j = k
  · subst h1
    rw [if_pos rfl, if_pos (by simpa using hj), if_neg (Ne.symm hij), if_pos rfl]
  · rw [if_neg h1, List.getElem?_set]
    by_cases h2 : i = k
    · subst h2
      rw [if_pos rfl, if_pos hi, if_pos rfl]
    · rw [if_neg h2, if_neg (Ne.symm h2), if_neg (Ne.symm h1)]
theorem row_facts {w : World} {e : TypeId} {g0 c i : Nat} {m : List TrapT} {x : TrapT} (hR : trapK.RowAt e w (fun _ => False) g0 c m) (hx : m[i]? = some x) :
    w.cell? ⟨g0, i * 2, none⟩ = some (.int .i64 x.at_) ∧ w.cell? ⟨g0, i * 2 + 1, none⟩ = some (.string x.nm) ∧ w.frozen? ⟨g0, i * 2, none⟩ = false ∧ w.frozen? ⟨g0, i * 2 + 1, none⟩ = false := by
  obtain ⟨cs, hcs, hc⟩ := hR.cells' hx
  have h : cs = x.cells := hcs
  subst h
  exact ⟨hc 0 _ rfl, hc 1 _ rfl, hR.frozen _, hR.frozen _⟩
theorem row_swap {w : World} {e : TypeId} {g0 c i j : Nat} {m : List TrapT} {x y : TrapT} (hR : trapK.RowAt e w (fun _ => False) g0 c m) (hi : i < m.length) (hj : j < m.length) :
    trapK.RowAt e ((((w.drew.setCell ⟨g0, i * 2, none⟩ (.int .i64 y.at_)).setCell ⟨g0, i * 2 + 1, none⟩ (.string y.nm)).setCell ⟨g0, j * 2, none⟩ (.int .i64 x.at_)).setCell ⟨g0, j * 2 + 1, none⟩ (.string x.nm)) (fun _ => False) g0 c (swp2 m i j x y) := by
  have h0 : trapK.RowAt e w.drew (fun _ => False) g0 c m := hR
  have h1 := h0.set (i := i) (x := y) (cs := y.cells) hi rfl (fun k h => h.elim)
  exact h1.set (i := j) (x := x) (cs := x.cells) (by simpa using hj) rfl (fun k h => h.elim)
theorem kept_swap {w0 w : World} {g0 a b c d : Nat} {u v x y : Value} (h : Kept (fun i => i = g0) w0 w) :
    Kept (fun i => i = g0) w0 ((((w.drew.setCell ⟨g0, a, none⟩ u).setCell ⟨g0, b, none⟩ v).setCell ⟨g0, c, none⟩ x).setCell ⟨g0, d, none⟩ y) :=
  (((h.drew.setCell (.inl rfl) _).setCell (.inl rfl) _).setCell (.inl rfl) _).setCell (.inl rfl) _

/-- The first j elements of two parts have changed places. -/
def Swapped {α : Type} (m q : List α) (a b j : Nat) : Prop := q.length = m.length ∧ ∀ k, q[k]? = if a ≤ k ∧ k < a + j then m[k - a + b]? else if b ≤ k ∧ k < b + j then m[k - b + a]? else m[k]?
theorem Swapped.start {α : Type} (m : List α) (a b : Nat) : Swapped m m a b 0 := ⟨rfl, fun k => by rw [if_neg (by omega), if_neg (by omega)]⟩
theorem Swapped.step {α : Type} {m q : List α} {a b j : Nat} (h : Swapped m q a b j) (hab : a + (j + 1) ≤ b) (hb : b + (j + 1) ≤ m.length) {x y : α} (hx : q[a + j]? = some x) (hy : q[b + j]? = some y) : Swapped m (swp2 q (a + j) (b + j) x y) a b (j + 1) := by
  refine ⟨by simp [swp2, h.1], fun k => ?_⟩
  rw [swp2_get _ _ _ _ _ (by have := h.1; omega) (by have := h.1; omega) (by omega)]
  have hx' := h.2 (a + j)
  have hy' := h.2 (b + j)
  rw [if_neg (by omega), if_neg (by omega)] at hx' hy'
  by_cases h1 : k = a + j
  · subst h1
    rw [if_pos rfl, if_pos (by omega), ← hy, hy']
    congr 1; omega
  · rw [if_neg h1]
    by_cases h2 : k = b + j
    · subst h2
      rw [if_pos rfl, if_neg (by omega), if_pos (by omega), ← hx, hx']
      congr 1; omega
    · rw [if_neg h2, h.2 k]
      by_cases h3 : a ≤ k ∧ k < a + j
      · have e1 : a ≤ k ∧ k < a + (j + 1) := by omega
        rw [if_pos h3, if_pos e1]
      · have e1 : ¬ (a ≤ k ∧ k < a + (j + 1)) := by omega
        rw [if_neg h3, if_neg e1]
        by_cases h4 : b ≤ k ∧ k < b + j
        · have e2 : b ≤ k ∧ k < b + (j + 1) := by omega
          rw [if_pos h4, if_pos e2]
        · have e2 : ¬ (b ≤ k ∧ k < b + (j + 1)) := by omega
          rw [if_neg h4, if_neg e2]
theorem Swapped.parts {α : Type} {pre A B C post q : List α} {a b n : Nat} (h : Swapped (pre ++ (A ++ (B ++ (C ++ post)))) q a b n) (ha : a = pre.length) (hA : A.length = n) (hC : C.length = n) (hb : b = pre.length + A.length + B.length) : q = pre ++ (C ++ (B ++ (A ++ post))) := by
  subst ha hb
  apply List.ext_getElem?
  intro k
  rw [h.2 k]
  simp only [List.getElem?_append]
  split
  · repeat' split
    all_goals first | rfl | (exfalso; omega) | (congr 1; omega)
  · split
    · repeat' split
      all_goals first | rfl | (exfalso; omega) | (congr 1; omega)
    · repeat' split
      all_goals first | rfl | (exfalso; omega) | (congr 1; omega)

theorem swapRange_trap (g : Nat) (lb : Array Value) (g0 c a b k : Nat) (m : List TrapT) (w : World) (hn : m.length ≤ 1000000000000) (hR : trapK.RowAt 33 w (fun _ => False) g0 c m) (hab : a + k ≤ b) (hb : b + k ≤ m.length) :
    Calls Try.prog 66 #[.slice (some ⟨g0, 0, none⟩) m.length c, .int .i64 a, .int .i64 b, .int .i64 k, .func (.func g) #[] lb] w fun e w' => e = .returned (.tuple #[]) ∧ ∃ q, Swapped m q a b k ∧ trapK.RowAt 33 w' (fun _ => False) g0 c q ∧ Kept (fun i => i = g0) w w' := by
  have HR := hide hR
  clear hR
  go_enter Try.func66, Try.ntmps66
  go_wp2
  go_loopw [10] (fun i wr => ∃ (j : Nat) (q : List TrapT), i = .int .i64 j ∧ j ≤ k ∧ Hid (Swapped m q a b j) ∧ Hid (trapK.RowAt 33 wr (fun _ => False) g0 c q) ∧ Hid (Kept (fun i => i = g0) w wr)) (fun i _ => k - (intOf i).toNat)
  case atStart => exact ⟨0, m, rfl, Nat.zero_le _, Swapped.start m a b, HR.out, Kept.refl _ _⟩
  case round =>
    obtain ⟨j, q, rfl, hj, HS, HRW, HK⟩ := hrel
    by_cases hlt : j < k
    · obtain ⟨x, hx⟩ : ∃ x, q[a + j]? = some x := ⟨_, List.getElem?_eq_getElem (by have := HS.out.1; omega)⟩
      obtain ⟨y, hy⟩ : ∃ y, q[b + j]? = some y := ⟨_, List.getElem?_eq_getElem (by have := HS.out.1; omega)⟩
      obtain ⟨x0, x1, f0, f1⟩ := row_facts HRW.out hx
      obtain ⟨y0, y1, f2, f3⟩ := row_facts HRW.out hy
      have HX := hide hx
      have HY := hide hy
      clear hx hy
      go_wp2
      go_region
      go_wp2
      go_roundw
      case rel => exact ⟨j + 1, swp2 q (a + j) (b + j) x y, by go_num, by omega, HS.out.step (by omega) (by omega) HX.out HY.out, row_swap HRW.out (by have := HS.out.1; omega) (by have := HS.out.1; omega), kept_swap HK.out⟩
      case measure => simp [intOf]; omega
    · go_wp2
      go_end0
      have e : j = k := by omega
      subst e
      exact ⟨rfl, q, HS.out, HRW.out, HK.out⟩
theorem swapRange_int (g : Nat) (lb : Array Value) (g0 c a b k n : Nat) (ai bi ki : Int) (m : List TrapT) (w : World) (hn : n ≤ 1000000000000) (hR : trapK.RowAt 33 w (fun _ => False) g0 c m) (hab : a + k ≤ b) (hb : b + k ≤ m.length)
    (e1 : n = m.length) (e2 : ai = a) (e3 : bi = b) (e4 : ki = k) :
    Calls Try.prog 66 #[.slice (some ⟨g0, 0, none⟩) n c, .int .i64 ai, .int .i64 bi, .int .i64 ki, .func (.func g) #[] lb] w fun e w' => e = .returned (.tuple #[]) ∧ ∃ q, Swapped m q a b k ∧ trapK.RowAt 33 w' (fun _ => False) g0 c q ∧ Kept (fun i => i = g0) w w' := by
  subst e1 e2 e3 e4
  exact swapRange_trap g lb g0 c a b k m w hn hR hab hb
end Go.Proofs.Ytpndigonlgnbeaa
