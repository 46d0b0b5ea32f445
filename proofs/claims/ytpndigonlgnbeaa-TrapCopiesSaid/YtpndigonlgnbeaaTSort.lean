/- Stable sorting of lists by a number: insertion behind all that is not greater; merging; how a merge is split; sorting by blocks. Plain lists, no program. -/
import Derived.Test.YtpndigonlgnbeaaBase
set_option linter.unusedVariables false
set_option linter.unusedSimpArgs false
namespace Go.Proofs.Ytpndigonlgnbeaa
namespace TS
variable {α : Type} (key : α → Int)
def Sorted (s : List α) : Prop := s.Pairwise fun x y => key x ≤ key y
/-- y behind all that is not greater, at the front. -/
def ins (s : List α) (y : α) : List α := s.takeWhile (fun x => decide (key x ≤ key y)) ++ y :: s.dropWhile (fun x => decide (key x ≤ key y))
def mrg (u v : List α) : List α := v.foldl (ins key) u
def isort (l : List α) : List α := mrg key [] l
variable {key}
theorem ins_le {W Z : List α} {y : α} (h : ∀ x ∈ W, key x ≤ key y) : ins key (W ++ Z) y = W ++ ins key Z y := by
  unfold ins
  rw [List.takeWhile_append_of_pos (by simpa using h), List.dropWhile_append_of_pos (by simpa using h), List.append_assoc]
theorem ins_lt {W Z : List α} {y : α} (h : ∀ x ∈ Z, key y < key x) : ins key (W ++ Z) y = ins key W y ++ Z := by
  induction W with
  | nil =>
    cases Z with
    | nil => simp
    | cons z Z =>
      have hz := h z (by simp)
      have hn : ¬ key z ≤ key y := by omega
      simp [ins, hn]
  | cons w W ih =>
    unfold ins at ih ⊢
    by_cases hw : key w ≤ key y
    · simp [hw] at ih ⊢
      exact ih
    · simp [hw]
theorem ins_end {W : List α} {y : α} (h : ∀ x ∈ W, key x ≤ key y) : ins key W y = W ++ [y] := by
  have := ins_le (Z := []) h
  simpa [ins] using this
/-- The place of y, told from the right. -/
theorem ins_at {s1 s2 : List α} {y : α} (h1 : ∀ x ∈ s1, key x ≤ key y) (h2 : ∀ x ∈ s2, key y < key x) : ins key (s1 ++ s2) y = s1 ++ y :: s2 := by
  rw [ins_lt h2, ins_end h1]
  simp
theorem ins_length (s : List α) (y : α) : (ins key s y).length = s.length + 1 := by
  have h := congrArg List.length (List.takeWhile_append_dropWhile (p := fun x => decide (key x ≤ key y)) (l := s))
  unfold ins
  simp only [List.length_append, List.length_cons] at h ⊢
  omega
theorem mem_ins {s : List α} {y x : α} : x ∈ ins key s y ↔ x ∈ s ∨ x = y := by
  have h : x ∈ s ↔ x ∈ s.takeWhile (fun x => decide (key x ≤ key y)) ∨ x ∈ s.dropWhile (fun x => decide (key x ≤ key y)) := by
    rw [← List.mem_append, List.takeWhile_append_dropWhile]
  unfold ins
  rw [List.mem_append, List.mem_cons, h]
  constructor
  · rintro (h | h | h)
    · exact .inl (.inl h)
    · exact .inr h
    · exact .inl (.inr h)
  · rintro ((h | h) | h)
    · exact .inl h
    · exact .inr (.inr h)
    · exact .inr (.inl h)
theorem split_sorted {s : List α} (hs : Sorted key s) (y : α) : ∃ s1 s2, s = s1 ++ s2 ∧ (∀ x ∈ s1, key x ≤ key y) ∧ ∀ x ∈ s2, key y < key x := by
  induction s with
  | nil => exact ⟨[], [], rfl, by simp, by simp⟩
  | cons w s ih =>
    obtain ⟨h1, h2⟩ := List.pairwise_cons.1 hs
    by_cases hw : key w ≤ key y
    · obtain ⟨s1, s2, rfl, a, b⟩ := ih h2
      exact ⟨w :: s1, s2, rfl, by
        intro x hx
        rcases List.mem_cons.1 hx with rfl | hx
        · exact hw
        · exact a x hx, b⟩
    · exact ⟨[], w :: s, rfl, by simp, by
        intro x hx
        rcases List.mem_cons.1 hx with rfl | hx
        · omega
        · have := h1 x hx; omega⟩
theorem ins_sorted {s : List α} (hs : Sorted key s) (y : α) : Sorted key (ins key s y) := by
  obtain ⟨s1, s2, rfl, h1, h2⟩ := split_sorted hs y
  rw [ins_at h1 h2]
  obtain ⟨a, b, c⟩ := List.pairwise_append.1 hs
  refine List.pairwise_append.2 ⟨a, List.pairwise_cons.2 ⟨fun x hx => by have := h2 x hx; omega, b⟩, fun x hx z hz => ?_⟩
  rcases List.mem_cons.1 hz with rfl | hz
  · exact h1 x hx
  · exact c x hx z hz
theorem mrg_sorted {u : List α} (hu : Sorted key u) (v : List α) : Sorted key (mrg key u v) := by
  induction v generalizing u with
  | nil => exact hu
  | cons y v ih => exact ih (ins_sorted hu y)
theorem isort_sorted (l : List α) : Sorted key (isort key l) := mrg_sorted (key := key) (u := []) List.Pairwise.nil l
theorem mem_mrg {u v : List α} {x : α} : x ∈ mrg key u v ↔ x ∈ u ∨ x ∈ v := by
  induction v generalizing u with
  | nil => simp [mrg]
  | cons y v ih =>
    show x ∈ mrg key (ins key u y) v ↔ _
    rw [ih, mem_ins, List.mem_cons]
    constructor
    · rintro ((h | h) | h)
      · exact .inl h
      · exact .inr (.inl h)
      · exact .inr (.inr h)
    · rintro (h | h | h)
      · exact .inl (.inl h)
      · exact .inl (.inr h)
      · exact .inr h
theorem mrg_length (u v : List α) : (mrg key u v).length = u.length + v.length := by
  induction v generalizing u with
  | nil => simp [mrg]
  | cons y v ih =>
    show (mrg key (ins key u y) v).length = _
    rw [ih, ins_length, List.length_cons]
    omega
theorem isort_length (l : List α) : (isort key l).length = l.length := by
  unfold isort
  rw [mrg_length]
  simp
theorem mem_isort {l : List α} {x : α} : x ∈ isort key l ↔ x ∈ l := by
  unfold isort
  rw [mem_mrg]
  simp
theorem mrg_append (u v1 v2 : List α) : mrg key u (v1 ++ v2) = mrg key (mrg key u v1) v2 := by
  unfold mrg
  rw [List.foldl_append]
/-- What comes behind all of W goes behind it. -/
theorem mrg_le {W Z v : List α} (h : ∀ x ∈ W, ∀ y ∈ v, key x ≤ key y) : mrg key (W ++ Z) v = W ++ mrg key Z v := by
  induction v generalizing Z with
  | nil => rfl
  | cons y v ih =>
    show mrg key (ins key (W ++ Z) y) v = W ++ mrg key (ins key Z y) v
    rw [ins_le (fun x hx => h x hx y (by simp)), ih (fun x hx z hz => h x hx z (by simp [hz]))]
theorem mrg_lt {W Z v : List α} (h : ∀ y ∈ v, ∀ x ∈ Z, key y < key x) : mrg key (W ++ Z) v = mrg key W v ++ Z := by
  induction v generalizing W with
  | nil => rfl
  | cons y v ih =>
    show mrg key (ins key (W ++ Z) y) v = mrg key (ins key W y) v ++ Z
    rw [ins_lt (fun x hx => h y (by simp) x hx), ih (fun z hz x hx => h z (by simp [hz]) x hx)]
theorem mrg_nil {v : List α} (hv : Sorted key v) : mrg key [] v = v := by
  have key1 : ∀ (v W : List α), Sorted key (W ++ v) → mrg key W v = W ++ v := by
    intro v
    induction v with
    | nil => intro W _; simp [mrg]
    | cons y v ih =>
      intro W h
      have hle : ∀ x ∈ W, key x ≤ key y := fun x hx => (List.pairwise_append.1 h).2.2 x hx y (by simp)
      show mrg key (ins key W y) v = _
      rw [ins_end hle, ih (W ++ [y]) (by simpa using h)]
      simp
  simpa using key1 v [] hv
/-- A merge falls into two. -/
theorem mrg_split {U1 U2 V1 V2 : List α} (hV : Sorted key (V1 ++ V2)) (h1 : ∀ x ∈ U1, ∀ y ∈ V2, key x ≤ key y) (h2 : ∀ y ∈ V1, ∀ x ∈ U2, key y < key x) :
    mrg key (U1 ++ U2) (V1 ++ V2) = mrg key U1 V1 ++ mrg key U2 V2 := by
  rw [mrg_append, mrg_lt h2, mrg_le]
  intro x hx y hy
  rcases mem_mrg.1 hx with hx | hx
  · exact h1 x hx y hy
  · exact (List.pairwise_append.1 hV).2.2 x hx y hy
theorem ins_comm {s : List α} (hs : Sorted key s) {x y : α} (h : key x < key y) : ins key (ins key s y) x = ins key (ins key s x) y := by
  obtain ⟨s1, s2, rfl, a1, a2⟩ := split_sorted hs x
  have hs2 : Sorted key s2 := (List.pairwise_append.1 hs).2.1
  obtain ⟨t1, t2, rfl, b1, b2⟩ := split_sorted hs2 y
  have e1 : ins key (s1 ++ (t1 ++ t2)) x = (s1 ++ x :: t1) ++ t2 := by rw [ins_at a1 a2]; simp
  have e2 : ins key (s1 ++ (t1 ++ t2)) y = (s1 ++ t1) ++ y :: t2 := by
    rw [← List.append_assoc, ins_at ?_ b2]
    intro z hz
    rcases List.mem_append.1 hz with hz | hz
    · have := a1 z hz; omega
    · exact b1 z hz
  rw [e1, e2]
  have e3 : ins key ((s1 ++ x :: t1) ++ t2) y = (s1 ++ x :: t1) ++ y :: t2 := by
    refine ins_at ?_ b2
    intro z hz
    rcases List.mem_append.1 hz with hz | hz
    · have := a1 z hz; omega
    · rcases List.mem_cons.1 hz with rfl | hz
      · omega
      · exact b1 z hz
  have e4 : ins key ((s1 ++ t1) ++ y :: t2) x = s1 ++ x :: (t1 ++ y :: t2) := by
    rw [List.append_assoc]
    refine ins_at a1 ?_
    intro z hz
    rcases List.mem_append.1 hz with hz | hz
    · exact a2 z (by simp [hz])
    · rcases List.mem_cons.1 hz with rfl | hz
      · exact h
      · exact a2 z (by simp [hz])
  rw [e3, e4]
  simp
/-- Merging what was sorted first. -/
theorem mrg_ins_end {v : List α} {y : α} (hv : ∀ z ∈ v, key y < key z) : ∀ {s : List α}, Sorted key s → mrg key (ins key s y) v = ins key (mrg key s v) y := by
  induction v with
  | nil => intro s hs; rfl
  | cons z v ih =>
    intro s hs
    show mrg key (ins key (ins key s y) z) v = ins key (mrg key (ins key s z) v) y
    rw [← ins_comm hs (hv z (by simp)), ih (fun w hw => hv w (by simp [hw])) (ins_sorted hs z)]
theorem mrg_ins_right {s t : List α} (hs : Sorted key s) (ht : Sorted key t) (y : α) : mrg key s (ins key t y) = ins key (mrg key s t) y := by
  obtain ⟨t1, t2, rfl, a1, a2⟩ := split_sorted ht y
  rw [ins_at a1 a2, mrg_append, mrg_append]
  show mrg key (ins key (mrg key s t1) y) t2 = _
  rw [mrg_ins_end a2 (mrg_sorted hs t1)]
theorem mrg_isort {s : List α} (hs : Sorted key s) (v : List α) : mrg key s (isort key v) = mrg key s v := by
  have key1 : ∀ (v t : List α), Sorted key t → mrg key s (mrg key t v) = mrg key (mrg key s t) v := by
    intro v
    induction v with
    | nil => intro t _; rfl
    | cons y v ih =>
      intro t ht
      show mrg key s (mrg key (ins key t y) v) = mrg key (ins key (mrg key s t) y) v
      rw [ih _ (ins_sorted ht y), mrg_ins_right hs ht]
  exact key1 v [] List.Pairwise.nil
theorem isort_append (u v : List α) : isort key (u ++ v) = mrg key (isort key u) (isort key v) := by
  rw [mrg_isort (isort_sorted u)]
  unfold isort
  rw [mrg_append]

/-! ### parts of a list -/
def seg (q : List α) (i k : Nat) : List α := (q.drop i).take k
theorem seg_length (q : List α) (i k : Nat) : (seg q i k).length = min k (q.length - i) := by
  unfold seg
  rw [List.length_take, List.length_drop]
theorem seg_split (q : List α) (i j k : Nat) (h : i + j ≤ q.length) : seg q i (j + k) = seg q i j ++ seg q (i + j) k := by
  unfold seg
  rw [List.take_add, List.drop_drop]
theorem cut3 (q : List α) (a b : Nat) (h : a ≤ b) : q = q.take a ++ seg q a (b - a) ++ q.drop b := by
  unfold seg
  have : (q.drop a).take (b - a) ++ q.drop b = q.drop a := by
    have e : q.drop b = (q.drop a).drop (b - a) := by rw [List.drop_drop]; congr 1; omega
    rw [e, List.take_append_drop]
  rw [List.append_assoc, this, List.take_append_drop]
/-- The part from a to b is another one of the same length. -/
def putSeg (q : List α) (a : Nat) (X : List α) : List α := q.take a ++ X ++ q.drop (a + X.length)
theorem putSeg_length (q X : List α) (a : Nat) (h : a + X.length ≤ q.length) : (putSeg q a X).length = q.length := by
  unfold putSeg
  simp only [List.length_append, List.length_take, List.length_drop]
  omega
theorem seg_putSeg_same (q X : List α) (a : Nat) (h : a + X.length ≤ q.length) : seg (putSeg q a X) a X.length = X := by
  unfold seg putSeg
  have hl : (q.take a).length = a := by rw [List.length_take]; omega
  rw [List.append_assoc]
  conv => lhs; arg 2; arg 1; rw [← hl]
  rw [List.drop_left, List.take_left]
theorem seg_putSeg_left (q X : List α) (a i k : Nat) (h : a + X.length ≤ q.length) (hi : i + k ≤ a) : seg (putSeg q a X) i k = seg q i k := by
  unfold seg putSeg
  apply List.ext_getElem?
  intro j
  rw [List.getElem?_take, List.getElem?_take]
  split
  · rw [List.getElem?_drop, List.getElem?_drop, List.append_assoc, List.getElem?_append_left (by rw [List.length_take]; omega), List.getElem?_take, if_pos (by omega)]
  · rfl
theorem drop_putSeg (q X : List α) (a i : Nat) (h : a + X.length ≤ q.length) (hi : a + X.length ≤ i) : (putSeg q a X).drop i = q.drop i := by
  unfold putSeg
  apply List.ext_getElem?
  intro j
  have hl : (q.take a ++ X).length = a + X.length := by rw [List.length_append, List.length_take]; omega
  rw [List.getElem?_drop, List.getElem?_drop, List.getElem?_append_right (by omega), List.getElem?_drop]
  congr 1
  omega
theorem seg_putSeg_right (q X : List α) (a i k : Nat) (h : a + X.length ≤ q.length) (hi : a + X.length ≤ i) : seg (putSeg q a X) i k = seg q i k := by
  unfold seg
  rw [drop_putSeg q X a i h hi]
theorem seg_all (q : List α) (k : Nat) (h : q.length ≤ k) : seg q 0 k = q := by
  unfold seg
  rw [List.drop_zero, List.take_of_length_le h]
theorem seg_nil (q : List α) (i k : Nat) (h : q.length ≤ i) : seg q i k = [] := by
  unfold seg
  rw [List.drop_eq_nil_of_le h]
  simp
theorem seg_min (q : List α) (i k : Nat) : seg q i k = seg q i (min k (q.length - i)) := by
  unfold seg
  rw [List.take_eq_take_iff, List.length_drop]
  omega
end TS
end Go.Proofs.Ytpndigonlgnbeaa
