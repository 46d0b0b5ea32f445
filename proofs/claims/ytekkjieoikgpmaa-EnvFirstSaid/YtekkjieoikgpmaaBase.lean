/- Words for memory, for all walks of this seat: a fact that is kept from the walk; which blocks may have turned; kinds of values and rows of them. Plain lemmas, no program. -/
import Derived.WalkKit
import Derived.WalkSpells
import Derived.WalkLawsBesides
import Derived.Maps.AppendAt
import Derived.Deep.Draws
import Derived.Shelf.Abstract
import Derived.Deep.QuietTactic
import Derived.BigQuiet
set_option linter.unusedVariables false
set_option linter.unusedSimpArgs false
namespace Go.Proofs.Ytekkjieoikgpmaa
open Go.RowKit

theorem hide {p : Prop} (h : p) : Hid p := h
theorem ret_bool {a b : Bool} (h : a = b) : Ending.returned (.bool a) = .returned (.bool b) := by rw [h]
theorem ret_int {k : IntKind} {a b : Int} (h : a = b) : Ending.returned (.int k a) = .returned (.int k b) := by rw [h]

/-- Only blocks of S, among those that were there, may have turned. -/
structure Kept (S : Nat → Prop) (w w' : World) : Prop where
  os : w'.os = w.os
  tape : w'.tape = w.tape
  output : w'.output = w.output
  size : w.heap.size ≤ w'.heap.size
  block : ∀ k, k < w.heap.size → ¬ S k → w'.heap[k]? = w.heap[k]?
theorem Kept.refl (S : Nat → Prop) (w : World) : Kept S w w := ⟨rfl, rfl, rfl, Nat.le_refl _, fun _ _ _ => rfl⟩
theorem Kept.trans {S T U : Nat → Prop} {a b c : World} (h : Kept S a b) (k : Kept T b c) (hS : ∀ i, i < a.heap.size → S i → U i) (hT : ∀ i, i < a.heap.size → T i → U i) : Kept U a c :=
  ⟨k.os.trans h.os, k.tape.trans h.tape, k.output.trans h.output, Nat.le_trans h.size k.size, fun i hi hn =>
    (k.block i (Nat.lt_of_lt_of_le hi h.size) (fun e => hn (hT i hi e))).trans (h.block i hi (fun e => hn (hS i hi e)))⟩
theorem Kept.of_below {S : Nat → Prop} {w w' : World} (h : Below w.heap.size w w') : Kept S w w' := ⟨h.os, h.tape, h.output, h.size, fun k hk _ => h.block k hk⟩
theorem Kept.mono {S T : Nat → Prop} {w w' : World} (h : Kept S w w') (hS : ∀ i, i < w.heap.size → S i → T i) : Kept T w w' := ⟨h.os, h.tape, h.output, h.size, fun k hk hn => h.block k hk (fun e => hn (hS k hk e))⟩
theorem Kept.below {S : Nat → Prop} {w w' : World} {B : Nat} (h : Kept S w w') (hB : B ≤ w.heap.size) (hS : ∀ i, S i → B ≤ i) : Below B w w' :=
  ⟨h.os, h.tape, h.output, h.size, fun k hk => h.block k (by omega) (fun e => by have := hS k e; omega)⟩
theorem Kept.of_grown {w w' : World} {row : Option Nat} (h : w.grownBy w' row) : Kept (fun k => row = some k) w w' := ⟨h.os, h.tape, h.output, h.size, fun k hk hn => h.block k hk (fun e => hn e.symm)⟩
theorem Kept.setCell {S : Nat → Prop} {w w' : World} (h : Kept S w w') {p : Addr} (hp : S p.block ∨ w.heap.size ≤ p.block) (u : Value) : Kept S w (w'.setCell p u) :=
  ⟨h.os, h.tape, h.output, by simpa [World.setCell] using h.size, fun i hi hn => (Below.heap_setCell w' p u i (by
    rintro rfl
    rcases hp with hp | hp
    · exact hn hp
    · omega)).trans (h.block i hi hn)⟩
theorem Kept.alloc {S : Nat → Prop} {w w' : World} (h : Kept S w w') (o : Obj) : Kept S w (w'.alloc o) :=
  ⟨h.os, h.tape, h.output, Nat.le_trans h.size (by simp), fun i hi hn => (Below.heap_alloc w' o i (Nat.lt_of_lt_of_le hi h.size)).trans (h.block i hi hn)⟩
theorem Kept.drewN {S : Nat → Prop} {w w' : World} (h : Kept S w w') (n : Nat) : Kept S w (w'.drewN n) := ⟨h.os, h.tape, h.output, h.size, h.block⟩
theorem Kept.drew {S : Nat → Prop} {w w' : World} (h : Kept S w w') : Kept S w w'.drew := ⟨h.os, h.tape, h.output, h.size, h.block⟩
theorem below_drewN {B : Nat} {a w : World} (h : Below B a w) (n : Nat) : Below B a (w.drewN n) := ⟨h.os, h.tape, h.output, h.size, h.block⟩
theorem below_then {B : Nat} {a b c : World} (h : Below B a b) (hB : B ≤ b.heap.size) (k : Below b.heap.size b c) : Below B a c := h.trans (k.mono hB)
theorem below_self {a b c : World} (h : Below a.heap.size a b) (k : Below b.heap.size b c) : Below a.heap.size a c := below_then h h.size k

/-! ### blocks -/
theorem blk_lt {w : World} {g : Nat} {o : Obj} (h : w.heap[g]? = some o) : g < w.heap.size := (Array.getElem?_eq_some_iff.1 h).1
theorem blk_ne {w : World} {g g' : Nat} {c c' : Array Value} {t t' : TypeId} {f f' : Nat × Nat} (h : w.heap[g]? = some (.cells c t f)) (h' : w.heap[g']? = some (.cells c' t' f')) (hne : t ≠ t') : g ≠ g' := by
  rintro rfl
  rw [h] at h'
  injection h' with h'
  injection h' with _ ht
  exact hne ht
theorem blk_cell {w : World} {g i : Nat} {cs : Array Value} {t : TypeId} {fr : Nat × Nat} (h : w.heap[g]? = some (.cells cs t fr)) : w.cell? ⟨g, i, none⟩ = cs[i]? := cell_of_row w g i cs t fr h
theorem blk_frozen {w : World} {g i : Nat} {cs : Array Value} {t : TypeId} (h : w.heap[g]? = some (.cells cs t (0, 0))) : w.frozen? ⟨g, i, none⟩ = false := by simp [World.frozen?, h]
theorem blk_set {w : World} {g : Nat} {cs : Array Value} {t : TypeId} {fr : Nat × Nat} (h : w.heap[g]? = some (.cells cs t fr)) (i : Nat) (u : Value) : (w.setCell ⟨g, i, none⟩ u).heap[g]? = some (.cells (cs.setIfInBounds i u) t fr) := by
  simp [World.setCell, Array.getElem?_modify, h]
theorem blk_far {w : World} {g : Nat} {o : Obj} (h : w.heap[g]? = some o) {p : Addr} (hp : g ≠ p.block) (u : Value) : (w.setCell p u).heap[g]? = some o := (Below.heap_setCell w p u g hp).trans h
theorem blk_alloc {w : World} {g : Nat} {o : Obj} (h : w.heap[g]? = some o) (o' : Obj) : (w.alloc o').heap[g]? = some o := (Below.heap_alloc w o' g (blk_lt h)).trans h
theorem blk_new (w : World) (o : Obj) : (w.alloc o).heap[w.heap.size]? = some o := heap_alloc_new w o
theorem blk_below {w w' : World} {g : Nat} {o : Obj} (h : w.heap[g]? = some o) {B : Nat} (hb : Below B w w') (hg : g < B) : w'.heap[g]? = some o := (hb.block g hg).trans h
theorem blk_kept {w w' : World} {g : Nat} {o : Obj} {S : Nat → Prop} (h : w.heap[g]? = some o) (hk : Kept S w w') (hg : ¬ S g) : w'.heap[g]? = some o := (hk.block g (blk_lt h) hg).trans h
theorem blk_grown {w w' : World} {g : Nat} {o : Obj} {row : Option Nat} (h : w.heap[g]? = some o) (hk : w.grownBy w' row) (hg : some g ≠ row) : w'.heap[g]? = some o := (hk.block g (blk_lt h) hg).trans h
theorem cell_lt {w : World} {b o : Nat} {v : Value} (h : w.cell? ⟨b, o, none⟩ = some v) : b < w.heap.size := World.block_lt_of_cell? w ⟨b, o, none⟩ h
theorem cell_same {w w' : World} {b : Nat} (h : w'.heap[b]? = w.heap[b]?) (o : Nat) : w'.cell? ⟨b, o, none⟩ = w.cell? ⟨b, o, none⟩ := World.cell?_of_block (w := w) (a := ⟨b, o, none⟩) h

/-! ### a region that draws its order and only reads, its callees making new memory at most: walked once -/
/-- A world that has grown out of w: nothing that was there has turned. -/
structure After (w : World) where
  W : World
  h : Below w.heap.size w W
instance (w : World) : Inhabited (After w) := ⟨⟨w, Below.refl _ _⟩⟩
theorem wp_region_after {P : Program} {id : Nat} {Q : Exit → Act → World → Prop} {a : Act} {w : World} {l : List Oper} (hm : P.follows .mixedOrders = true) (hB : Region.lexB .any l.toArray = true)
    (h : wpQuiet P l.toArray (fun w' => ∃ q : After w, w' = q.W) (fun a' => ∀ w', (∃ q : After w, w' = q.W) → Q .normal a' w') l a) : (Code.region id l.toArray true).wp P Q a w :=
  wp_region_quiet (C := fun w' => ∃ q : After w, w' = q.W) hm hB ⟨⟨w.drew, (Below.refl _ _).drew⟩, rfl⟩ (by simpa using h)
theorem calls_after {P : Program} {f : FuncId} {args : Array Value} {w : World} {q : After w} {v : Value} (h : Calls P f args q.W fun e w' => e = .returned v ∧ Below q.W.heap.size q.W w') :
    Calls P f args q.W fun e w'' => e = .returned v ∧ ∃ q' : After w, w'' = q'.W :=
  h.mono fun _ w' ⟨he, hb⟩ => ⟨he, ⟨w', below_self q.h hb⟩, rfl⟩
theorem cell_after {w : World} {b o : Nat} {v : Value} (h : w.cell? ⟨b, o, none⟩ = some v) (q : After w) : q.W.cell? ⟨b, o, none⟩ = some v := (q.h.cell (p := ⟨b, o, none⟩) (cell_lt h)).trans h

/-! ### kinds -/
/-- 'K w ok x cs': cs are the cells of x; all blocks that they lead to are ok. -/
structure Kind (α : Type) where
  sz : Nat
  K : World → (Nat → Prop) → α → List Value → Prop
  len : ∀ {w : World} {ok : Nat → Prop} {x : α} {cs : List Value}, K w ok x cs → cs.length = sz
  one : ∀ {w : World} {ok : Nat → Prop} {x : α} {cs : List Value}, K w ok x cs → ∀ u ∈ cs, u.oneCell' = true
  weaken : ∀ {w : World} {ok ok' : Nat → Prop} {x : α} {cs : List Value}, (∀ k, ok k → ok' k) → K w ok x cs → K w ok' x cs
  bound : ∀ {w : World} {ok : Nat → Prop} {x : α} {cs : List Value}, K w ok x cs → K w (fun k => ok k ∧ k < w.heap.size) x cs
  move : ∀ {w w' : World} {ok : Nat → Prop} {x : α} {cs : List Value}, (∀ k, ok k → w'.heap[k]? = w.heap[k]?) → K w ok x cs → K w' ok x cs
namespace Kind
section
variable {α : Type} {d : Kind α} {w w' : World} {ok ok' : Nat → Prop} {x : α} {cs : List Value} {A : Option Addr} {n c : Nat} {l : List α}
theorem step (h : d.K w ok x cs) (hm : ∀ k, ok k → k < w.heap.size → w'.heap[k]? = w.heap[k]?) : d.K w' ok x cs :=
  d.weaken (fun _ hk => hk.1) (d.move (fun k hk => hm k hk.1 hk.2) (d.bound h))
theorem below (h : d.K w ok x cs) (hb : Below w.heap.size w w') : d.K w' ok x cs := step h fun k _ hk => hb.block k hk
/-- The slice at A of n elements reads as the list l. -/
def Rd (d : Kind α) (w : World) (ok : Nat → Prop) (A : Option Addr) (n : Nat) (l : List α) : Prop :=
  l.length = n ∧ (0 < n → ∃ b off, A = some ⟨b, off, none⟩ ∧ ok b ∧ b < w.heap.size ∧ ∀ i x, l[i]? = some x → ∃ cs, d.K w ok x cs ∧ ∀ j u, cs[j]? = some u → w.cell? ⟨b, off + i * d.sz + j, none⟩ = some u)
theorem Rd.nil (d : Kind α) (w : World) (ok : Nat → Prop) (A : Option Addr) : d.Rd w ok A 0 [] := ⟨rfl, fun h => absurd h (by omega)⟩
theorem Rd.weaken (h : d.Rd w ok A n l) (hok : ∀ k, ok k → ok' k) : d.Rd w ok' A n l :=
  ⟨h.1, fun hn => by
    obtain ⟨b, off, e, hb, hlt, hc⟩ := h.2 hn
    exact ⟨b, off, e, hok _ hb, hlt, fun i x hx => by
      obtain ⟨cs, hk, hcs⟩ := hc i x hx
      exact ⟨cs, d.weaken hok hk, hcs⟩⟩⟩
theorem Rd.bound (h : d.Rd w ok A n l) : d.Rd w (fun k => ok k ∧ k < w.heap.size) A n l :=
  ⟨h.1, fun hn => by
    obtain ⟨b, off, e, hb, hlt, hc⟩ := h.2 hn
    exact ⟨b, off, e, ⟨hb, hlt⟩, hlt, fun i x hx => by
      obtain ⟨cs, hk, hcs⟩ := hc i x hx
      exact ⟨cs, d.bound hk, hcs⟩⟩⟩
theorem Rd.move (h : d.Rd w ok A n l) (hm : ∀ k, ok k → w'.heap[k]? = w.heap[k]?) : d.Rd w' ok A n l :=
  ⟨h.1, fun hn => by
    obtain ⟨b, off, e, hb, hlt, hc⟩ := h.2 hn
    have hlt' : b < w'.heap.size := by
      have h1 : w'.heap[b]? = some w.heap[b] := by rw [hm b hb, Array.getElem?_eq_getElem hlt]
      exact blk_lt h1
    exact ⟨b, off, e, hb, hlt', fun i x hx => by
      obtain ⟨cs, hk, hcs⟩ := hc i x hx
      exact ⟨cs, d.move hm hk, fun j u hu => (cell_same (hm b hb) _).trans (hcs j u hu)⟩⟩⟩
theorem Rd.step (h : d.Rd w ok A n l) (hm : ∀ k, ok k → k < w.heap.size → w'.heap[k]? = w.heap[k]?) : d.Rd w' ok A n l :=
  (h.bound.move fun k hk => hm k hk.1 hk.2).weaken fun _ hk => hk.1
theorem Rd.below (h : d.Rd w ok A n l) (hb : Below w.heap.size w w') : d.Rd w' ok A n l := h.step fun k _ hk => hb.block k hk
theorem Rd.at_ (h : d.Rd w ok A n l) {i : Nat} (hi : i < l.length) : ∃ b off cs, A = some ⟨b, off, none⟩ ∧ b < w.heap.size ∧ d.K w ok l[i] cs ∧ ∀ j u, cs[j]? = some u → w.cell? ⟨b, off + i * d.sz + j, none⟩ = some u := by
  obtain ⟨b, off, e, _, hlt, hc⟩ := h.2 (by have := h.1; omega)
  obtain ⟨cs, hk, hcs⟩ := hc i _ (List.getElem?_eq_getElem hi)
  exact ⟨b, off, cs, e, hlt, hk, hcs⟩
/-- A cut of a slice, as the model tells its address. -/
theorem Rd.cut (h : d.Rd w ok A n l) {k m : Nat} (hk : k ≤ m) (hm : m ≤ n) (hc : n ≤ c) :
    d.Rd w ok (if c = k then A else A.map (·.add (k * d.sz))) (m - k) ((l.take m).drop k) := by
  refine ⟨by rw [List.length_drop, List.length_take]; have := h.1; omega, fun hn => ?_⟩
  obtain ⟨b, off, rfl, hb, hlt, hcell⟩ := h.2 (by omega)
  rw [if_neg (by omega)]
  refine ⟨b, off + k * d.sz, ?_, hb, hlt, fun i x hx => ?_⟩
  · show some ((⟨b, off, none⟩ : Addr).add (k * d.sz)) = _
    rw [Addr.add_lit]
  · rw [List.getElem?_drop, List.getElem?_take] at hx
    split at hx
    · obtain ⟨cs, hK, hcs⟩ := hcell (k + i) x hx
      refine ⟨cs, hK, fun j u hu => ?_⟩
      have := hcs j u hu
      rw [Nat.add_mul] at this
      rw [← this]
      congr 2
      omega
    · cases hx
end

/-! #### single cells -/
def scalar {α : Type} (enc : α → Value) (h1 : ∀ x, (enc x).oneCell' = true) : Kind α where
  sz := 1
  K := fun _ _ x cs => cs = [enc x]
  len := fun h => by rw [h]; rfl
  one := fun h u hu => by
    rw [h] at hu
    rw [List.mem_singleton.1 hu]
    exact h1 _
  weaken := fun _ h => h
  bound := fun h => h
  move := fun _ h => h
def int : Kind Int := scalar (Value.int .i64) (fun _ => rfl)
def str : Kind ByteArray := scalar Value.string (fun _ => rfl)
def slice {α : Type} (d : Kind α) : Kind (List α) where
  sz := 1
  K := fun w ok l cs => ∃ A c, cs = [.slice A l.length c] ∧ l.length ≤ c ∧ d.Rd w ok A l.length l
  len := by
    rintro w ok x cs ⟨A, c, rfl, _⟩
    rfl
  one := by
    rintro w ok x cs ⟨A, c, rfl, _⟩ u hu
    rw [List.mem_singleton.1 hu]
    rfl
  weaken := by
    rintro w ok ok' x cs hok ⟨A, c, rfl, hl, hr⟩
    exact ⟨A, c, rfl, hl, hr.weaken hok⟩
  bound := by
    rintro w ok x cs ⟨A, c, rfl, hl, hr⟩
    exact ⟨A, c, rfl, hl, hr.bound⟩
  move := by
    rintro w w' ok x cs hm ⟨A, c, rfl, hl, hr⟩
    exact ⟨A, c, rfl, hl, hr.move hm⟩

/-! #### rows of the call's own -/
/-- The elements' cells in line. -/
def Reps {α : Type} (d : Kind α) (w : World) (ok : Nat → Prop) (l : List α) (cs : List Value) : Prop :=
  cs.length = l.length * d.sz ∧ ∀ i x, l[i]? = some x → d.K w ok x ((cs.drop (i * d.sz)).take d.sz)
section
variable {α : Type} {d : Kind α} {w w' : World} {ok ok' : Nat → Prop} {x : α} {c cs : List Value} {l : List α}
theorem Reps.nil (d : Kind α) (w : World) (ok : Nat → Prop) : d.Reps w ok [] [] := ⟨by simp, fun j p h => by simp at h⟩
theorem Reps.snoc (h : d.Reps w ok l cs) (hx : d.K w ok x c) : d.Reps w ok (l ++ [x]) (cs ++ c) := by
  have hc := d.len hx
  refine ⟨by rw [List.length_append, h.1, hc, List.length_append, List.length_singleton, Nat.add_mul, Nat.one_mul], fun j q hq => ?_⟩
  rcases Nat.lt_or_ge j l.length with hj | hj
  · rw [List.getElem?_append_left hj] at hq
    have h1 : j * d.sz + d.sz ≤ cs.length := by rw [h.1, ← Nat.succ_mul]; exact Nat.mul_le_mul_right _ hj
    rw [List.drop_append_of_le_length (by omega), List.take_append_of_le_length (by rw [List.length_drop]; omega)]
    exact h.2 j q hq
  · have hj' : j = l.length := by
      have := (List.getElem?_eq_some_iff.1 hq).1
      rw [List.length_append, List.length_singleton] at this
      omega
    subst hj'
    have hq' : x = q := by simpa using hq
    subst hq'
    rw [← h.1, List.drop_left, ← hc, List.take_length]
    exact hx
theorem Reps.cons (hx : d.K w ok x c) (h : d.Reps w ok l cs) : d.Reps w ok (x :: l) (c ++ cs) := by
  have hc := d.len hx
  refine ⟨by rw [List.length_append, h.1, hc, List.length_cons, Nat.add_mul, Nat.one_mul, Nat.add_comm], fun j q hq => ?_⟩
  cases j with
  | zero =>
    have hq' : x = q := by simpa using hq
    subst hq'
    rw [Nat.zero_mul, List.drop_zero, ← hc, List.take_left]
    exact hx
  | succ j =>
    have : (j + 1) * d.sz = c.length + j * d.sz := by rw [Nat.add_mul, Nat.one_mul, hc, Nat.add_comm]
    rw [this, ← List.drop_drop, List.drop_left]
    exact h.2 j q (by simpa using hq)
theorem Reps.imp (h : d.Reps w ok l cs) (hK : ∀ x c, d.K w ok x c → d.K w' ok' x c) : d.Reps w' ok' l cs := ⟨h.1, fun j p hj => hK _ _ (h.2 j p hj)⟩
theorem Reps.append {l2 : List α} {cs2 : List Value} (h : d.Reps w ok l cs) (h2 : d.Reps w ok l2 cs2) : d.Reps w ok (l ++ l2) (cs ++ cs2) := by
  refine ⟨by rw [List.length_append, h.1, h2.1, List.length_append, Nat.add_mul], fun j q hq => ?_⟩
  rcases Nat.lt_or_ge j l.length with hj | hj
  · rw [List.getElem?_append_left hj] at hq
    have h1 : j * d.sz + d.sz ≤ cs.length := by rw [h.1, ← Nat.succ_mul]; exact Nat.mul_le_mul_right _ hj
    rw [List.drop_append_of_le_length (by omega), List.take_append_of_le_length (by rw [List.length_drop]; omega)]
    exact h.2 j q hq
  · rw [List.getElem?_append_right hj] at hq
    have e : j * d.sz = cs.length + (j - l.length) * d.sz := by rw [h.1, ← Nat.add_mul]; congr 1; omega
    rw [e, ← List.drop_drop, List.drop_left]
    exact h2.2 _ q hq
theorem Reps.one (h : d.Reps w ok l cs) : ∀ u ∈ cs, u.oneCell' = true := by
  intro u hu
  obtain ⟨i, hi, rfl⟩ := List.mem_iff_getElem.1 hu
  have hlen := h.1
  rcases Nat.eq_zero_or_pos d.sz with h0 | h0
  · rw [h0, Nat.mul_zero] at hlen; omega
  · have hq : i / d.sz < l.length := by rw [Nat.div_lt_iff_lt_mul h0]; omega
    have hk := h.2 (i / d.sz) _ (List.getElem?_eq_getElem hq)
    refine d.one hk _ ?_
    have hmod := Nat.mod_lt i h0
    have hdm := Nat.div_add_mod' i d.sz
    refine List.mem_iff_getElem.2 ⟨i % d.sz, ?_, ?_⟩
    · rw [List.length_take, List.length_drop]; omega
    · rw [List.getElem_take, List.getElem_drop]
      congr 1
/-- v owns a row that reads as l; what its elements lead to is ok. -/
def Own (d : Kind α) (e : TypeId) (w : World) (ok : Nat → Prop) (base : Nat) (v : Value) (l : List α) : Prop :=
  ∃ xs, w.ownsRow base e d.sz v l.length xs ∧ d.Reps w ok l xs
variable {e : TypeId} {base : Nat} {v : Value}
theorem Own.nil (d : Kind α) (e : TypeId) (w : World) (ok : Nat → Prop) (base : Nat) : d.Own e w ok base (.slice none 0 0) [] := ⟨[], World.ownsRow_nil _ _ _ _, Reps.nil _ _ _⟩
theorem own_move {base : Nat} {e : TypeId} {size n : Nat} {v : Value} {xs : List Value} (h : w.ownsRow base e size v n xs) (hm : ∀ k, v.ownBlock = some k → w'.heap[k]? = w.heap[k]?) : w'.ownsRow base e size v n xs := by
  obtain ⟨h1, h2⟩ := h
  refine ⟨h1, ?_⟩
  rcases h2 with h2 | ⟨g, cap, cur, rfl, hg, hh, r⟩
  · exact .inl h2
  · exact .inr ⟨g, cap, cur, rfl, hg, (hm g (by simp [Value.ownBlock])).trans hh, r⟩
theorem Own.step (h : d.Own e w ok base v l) (hv : ∀ k, v.ownBlock = some k → w'.heap[k]? = w.heap[k]?) (hm : ∀ k, ok k → k < w.heap.size → w'.heap[k]? = w.heap[k]?) : d.Own e w' ok base v l := by
  obtain ⟨xs, ho, hr⟩ := h
  exact ⟨xs, own_move ho hv, hr.imp fun x c hk => d.step hk hm⟩
theorem Own.lt (h : d.Own e w ok base v l) : ∀ k, v.ownBlock = some k → base ≤ k ∧ k < w.heap.size := by
  obtain ⟨xs, ho, hr⟩ := h
  exact ho.lt
theorem Own.typed (h : d.Own e w ok base v l) : ∀ k, v.ownBlock = some k → ∃ cells, w.heap[k]? = some (.cells cells e (0, 0)) := by
  obtain ⟨xs, ho, hr⟩ := h
  intro k hk
  rcases ho.2 with ⟨rfl, _⟩ | ⟨g, cap, cur, rfl, hg, hh, r⟩
  · simp [Value.ownBlock] at hk
  · have : g = k := by simpa [Value.ownBlock] using hk
    subst this
    exact ⟨cur, hh⟩
theorem Own.below (h : d.Own e w ok base v l) (hb : Below w.heap.size w w') : d.Own e w' ok base v l :=
  h.step (fun k hk => hb.block k (h.lt k hk).2) (fun k _ hk => hb.block k hk)
theorem Own.weaken (h : d.Own e w ok base v l) (hok : ∀ k, ok k → ok' k) : d.Own e w ok' base v l := by
  obtain ⟨xs, ho, hr⟩ := h
  exact ⟨xs, ho, hr.imp fun x c hk => d.weaken hok hk⟩
theorem Own.bound (h : d.Own e w ok base v l) : d.Own e w (fun k => ok k ∧ k < w.heap.size) base v l := by
  obtain ⟨xs, ho, hr⟩ := h
  exact ⟨xs, ho, hr.imp fun x c hk => d.bound hk⟩
theorem Own.lower {base' : Nat} (h : d.Own e w ok base v l) (hb : base' ≤ base) : d.Own e w ok base' v l := by
  obtain ⟨xs, ⟨h1, h2⟩, hr⟩ := h
  refine ⟨xs, ⟨h1, ?_⟩, hr⟩
  rcases h2 with h2 | ⟨g, cap, cur, rfl, hg, r⟩
  · exact .inl h2
  · exact .inr ⟨g, cap, cur, rfl, Nat.le_trans hb hg, r⟩
/-- What is owned is a slice that reads. -/
theorem Own.form (h : d.Own e w ok base v l) : ∃ A c, v = .slice A l.length c ∧ l.length ≤ c ∧ c ≤ maxLen ∧ (0 < l.length → ∃ g, A = some ⟨g, 0, none⟩) ∧ (∀ a, A = some a → a = ⟨a.block, 0, none⟩) ∧ d.Rd w (fun k => ok k ∨ v.ownBlock = some k) A l.length l := by
  obtain ⟨xs, ho, hr⟩ := h
  rcases ho.2 with ⟨rfl, h0⟩ | ⟨g, cap, cur, rfl, hg, hh, hn, hm, hs, ht⟩
  · rw [h0]
    have : l = [] := List.eq_nil_of_length_eq_zero h0
    subst this
    exact ⟨none, 0, rfl, Nat.le_refl _, Nat.zero_le _, fun h => absurd h (by omega), (fun a h => by cases h), Rd.nil _ _ _ _⟩
  · refine ⟨some ⟨g, 0, none⟩, cap, rfl, hn, hm, fun _ => ⟨g, rfl⟩, (fun a h => by injection h with h; subst h; rfl), rfl, fun hp => ⟨g, 0, rfl, .inr (by simp [Value.ownBlock]), blk_lt hh, fun i x hx => ?_⟩⟩
    refine ⟨_, d.weaken (fun k hk => .inl hk) (hr.2 i x hx), fun j u hu => ?_⟩
    rw [blk_cell hh]
    rw [List.getElem?_take] at hu
    split at hu
    · rename_i hj
      rw [List.getElem?_drop, ← ht, List.getElem?_take] at hu
      split at hu
      · rw [← hu]; simp
      · cases hu
    · cases hu
end
end Kind
end Go.Proofs.Ytekkjieoikgpmaa
