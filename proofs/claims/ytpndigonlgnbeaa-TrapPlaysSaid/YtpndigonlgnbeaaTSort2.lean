/- Stable sorting by blocks: the plain laws. -/
import Derived.Test.YtpndigonlgnbeaaTSort
namespace Go.Proofs.Ytpndigonlgnbeaa
namespace TS
variable {α : Type} {key : α → Int}

/-- All blocks of K elements are sorted. -/
def Inv1 (key : α → Int) (q l : List α) (K : Nat) : Prop := q.length = l.length ∧ ∀ j, seg q (j * K) K = isort key (seg l (j * K) K)
/-- i blocks of K elements are sorted, the others lie as they lay. -/
def Inv0 (key : α → Int) (q l : List α) (K i : Nat) : Prop := q.length = l.length ∧ (∀ j, j < i → seg q (j * K) K = isort key (seg l (j * K) K)) ∧ q.drop (i * K) = l.drop (i * K)
/-- i blocks of 2 k elements are sorted, of the others those of k. -/
def Inv2 (key : α → Int) (q l : List α) (k i : Nat) : Prop :=
  q.length = l.length ∧ (∀ j, j < i → seg q (j * (2 * k)) (2 * k) = isort key (seg l (j * (2 * k)) (2 * k))) ∧ ∀ j, 2 * i ≤ j → seg q (j * k) k = isort key (seg l (j * k) k)

theorem putSeg_eq (q X : List α) (a b : Nat) (h : a + X.length = b) : q.take a ++ (X ++ q.drop b) = putSeg q a X := by
  subst h
  unfold putSeg
  rw [List.append_assoc]

theorem Inv0.first (l : List α) (K : Nat) : Inv0 key l l K 0 := ⟨rfl, fun _ h => absurd h (Nat.not_lt_zero _), rfl⟩

theorem Inv0.step {q l : List α} {K i a b : Nat} (h : Inv0 key q l K i) (ha : a = i * K) (haq : a ≤ q.length) (hb : b = a + (seg q a K).length) :
    q = q.take a ++ (seg q a K ++ q.drop b) ∧ Inv0 key (q.take a ++ (isort key (seg q a K) ++ q.drop b)) l K (i + 1) := by
  obtain ⟨h1, h2, h3⟩ := h
  have hl := seg_length q a K
  have hX : (isort key (seg q a K)).length = (seg q a K).length := isort_length _
  have hs : seg q a K = seg l a K := by unfold seg; rw [ha, h3]
  have hfit : a + (isort key (seg q a K)).length ≤ q.length := by omega
  refine ⟨?_, ?_⟩
  · have := cut3 q a b (by omega)
    rw [List.append_assoc] at this
    have e : seg q a (b - a) = seg q a K := by
      rw [show b - a = min K (q.length - a) from by omega, ← seg_min]
    rw [e] at this
    exact this
  · rw [putSeg_eq _ _ _ _ (by omega)]
    refine ⟨by rw [putSeg_length _ _ _ hfit, h1], fun j hj => ?_, ?_⟩
    · rcases Nat.lt_or_ge j i with h | h
      · rw [seg_putSeg_left _ _ _ _ _ hfit, h2 j h]
        have := Nat.mul_le_mul_right K (show j + 1 ≤ i from h)
        rw [Nat.add_mul, Nat.one_mul] at this
        omega
      · have : j = i := by omega
        subst this
        rw [← ha, seg_min, putSeg_length _ _ _ hfit, show min K (q.length - a) = (isort key (seg q a K)).length from by omega, seg_putSeg_same _ _ _ hfit, hs]
    · rcases Nat.le_total K (q.length - a) with h | h
      · rw [drop_putSeg _ _ _ _ hfit (by rw [Nat.add_mul, Nat.one_mul]; omega), Nat.add_mul, Nat.one_mul, ← List.drop_drop, ← List.drop_drop, h3]
      · rw [List.drop_eq_nil_of_le (by rw [putSeg_length _ _ _ hfit, Nat.add_mul, Nat.one_mul]; omega), List.drop_eq_nil_of_le (by rw [Nat.add_mul, Nat.one_mul]; omega)]

theorem Inv0.last {q l : List α} {K i : Nat} (h : Inv0 key q l K i) (hn : q.length ≤ i * K) : Inv1 key q l K := by
  obtain ⟨h1, h2, h3⟩ := h
  refine ⟨h1, fun j => ?_⟩
  rcases Nat.lt_or_ge j i with h | h
  · exact h2 j h
  · have := Nat.mul_le_mul_right K h
    rw [seg_nil _ _ _ (by omega), seg_nil _ _ _ (by omega)]
    rfl

theorem Inv1.first {q l : List α} {k : Nat} (h : Inv1 key q l k) : Inv2 key q l k 0 := ⟨h.1, fun _ hj => absurd hj (Nat.not_lt_zero _), fun j _ => h.2 j⟩

theorem Inv1.all {q l : List α} {k : Nat} (h : Inv1 key q l k) (hn : q.length ≤ k) : q = isort key l := by
  have := h.2 0
  rw [Nat.zero_mul, seg_all _ _ hn, seg_all _ _ (by rw [← h.1]; exact hn)] at this
  exact this

theorem Inv2.step {q l : List α} {k i a b : Nat} (h : Inv2 key q l k i) (ha : a = i * (2 * k)) (hak : a + k ≤ q.length) (hb : b = a + k + (seg q (a + k) k).length) :
    q = q.take a ++ (seg q a k ++ (seg q (a + k) k ++ q.drop b)) ∧ (seg q a k).length = k ∧ Sorted key (seg q a k) ∧ Sorted key (seg q (a + k) k) ∧
      Inv2 key (q.take a ++ (mrg key (seg q a k) (seg q (a + k) k) ++ q.drop b)) l k (i + 1) := by
  obtain ⟨h1, h2, h3⟩ := h
  have ea : a = (2 * i) * k := by rw [ha, ← Nat.mul_assoc, Nat.mul_comm i 2]
  have ea2 : a + k = (2 * i + 1) * k := by rw [Nat.add_mul, Nat.one_mul, ea]
  have eU := h3 (2 * i) (Nat.le_refl _)
  have eV := h3 (2 * i + 1) (by omega)
  rw [← ea] at eU
  rw [← ea2] at eV
  have hlU := seg_length q a k
  have hlV := seg_length q (a + k) k
  have hX : mrg key (seg q a k) (seg q (a + k) k) = isort key (seg l a (2 * k)) := by
    rw [eU, eV, ← isort_append, show 2 * k = k + k from by omega, seg_split _ _ _ _ (by omega)]
  have hXl : (mrg key (seg q a k) (seg q (a + k) k)).length = (seg q a k).length + (seg q (a + k) k).length := mrg_length _ _
  generalize hXX : mrg key (seg q a k) (seg q (a + k) k) = X at *
  have hfit : a + X.length ≤ q.length := by omega
  refine ⟨?_, by omega, by rw [eU]; exact isort_sorted _, by rw [eV]; exact isort_sorted _, ?_⟩
  · have := cut3 q a b (by omega)
    rw [List.append_assoc] at this
    have e : seg q a (b - a) = seg q a k ++ seg q (a + k) k := by
      rw [show b - a = k + min k (q.length - (a + k)) from by omega, seg_split _ _ _ _ (by omega), ← seg_min]
    rw [e, List.append_assoc] at this
    exact this
  · rw [putSeg_eq _ _ _ _ (by omega)]
    refine ⟨by rw [putSeg_length _ _ _ hfit, h1], fun j hj => ?_, fun j hj => ?_⟩
    · rcases Nat.lt_or_ge j i with h | h
      · rw [seg_putSeg_left _ _ _ _ _ hfit, h2 j h]
        have := Nat.mul_le_mul_right (2 * k) (show j + 1 ≤ i from h)
        rw [Nat.add_mul, Nat.one_mul] at this
        omega
      · have : j = i := by omega
        subst this
        rw [← ha, seg_min, putSeg_length _ _ _ hfit, show min (2 * k) (q.length - a) = X.length from by omega, seg_putSeg_same _ _ _ hfit, hX]
    · have hjk := Nat.mul_le_mul_right k (show 2 * i + 2 ≤ j from by omega)
      rw [Nat.add_mul, ← ea] at hjk
      rw [seg_putSeg_right _ _ _ _ _ hfit (by omega), h3 j (by omega)]

theorem Inv2.last {q l : List α} {k i : Nat} (h : Inv2 key q l k i) (hn : q.length ≤ i * (2 * k) + k) : Inv1 key q l (2 * k) := by
  obtain ⟨h1, h2, h3⟩ := h
  refine ⟨h1, fun j => ?_⟩
  have ea : i * (2 * k) = (2 * i) * k := by rw [← Nat.mul_assoc, Nat.mul_comm i 2]
  rcases Nat.lt_or_ge j i with h | h
  · exact h2 j h
  · rcases Nat.lt_or_ge i j with h' | h'
    · have := Nat.mul_le_mul_right (2 * k) (show i + 1 ≤ j from h')
      rw [Nat.add_mul, Nat.one_mul] at this
      rw [seg_nil _ _ _ (by omega), seg_nil _ _ _ (by omega)]
      rfl
    · have : j = i := by omega
      subst this
      have e := h3 (2 * j) (Nat.le_refl _)
      rw [← ea] at e
      rw [show seg q (j * (2 * k)) (2 * k) = seg q (j * (2 * k)) k from by rw [seg_min, seg_min q _ k]; congr 1; omega, e,
        show seg l (j * (2 * k)) (2 * k) = seg l (j * (2 * k)) k from by rw [seg_min, seg_min l _ k]; congr 1; omega]
end TS
end Go.Proofs.Ytpndigonlgnbeaa
