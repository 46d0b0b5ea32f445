import Derived.WalkKit
import Derived.WalkSpells
import Derived.WalkLawsBesides
import Derived.Maps.AppendAt
import Derived.Deep.Draws
import Derived.Shelf.Abstract
import Derived.Deep.QuietTactic
import Derived.BigQuiet
import Derived.Test.YteadghhmoggjnaaRows
import Derived.Lib.IndexLaws
import Derived.Lib.Bytealg
import Derived.Laws.Externs
import Derived.Deep.DeepCutAuto
import Derived.Test.YteadghhmoggjnaaFF2
section
section
/- Words for memory, for all walks of this seat: a fact that is kept from the walk; which blocks may have turned; kinds of values and rows of them. Plain lemmas, no program. -/
set_option linter.unusedVariables false
set_option linter.unusedSimpArgs false
namespace Go.Proofs.YteadghhmoggjnaaB
open Go.RowKit
theorem hide {p : Prop} (h : p) : Hid p := h
theorem ret_bool {a b : Bool} (h : a = b) : Ending.returned (.bool a) = .returned (.bool b) := by rw [h]
theorem ret_int {k : IntKind} {a b : Int} (h : a = b) : Ending.returned (.int k a) = .returned (.int k b) := by rw [h]
theorem below_drewN {B : Nat} {a w : World} (h : Below B a w) (n : Nat) : Below B a (w.drewN n) := ⟨h.os, h.tape, h.output, h.size, h.block⟩
theorem below_then {B : Nat} {a b c : World} (h : Below B a b) (hB : B ≤ b.heap.size) (k : Below b.heap.size b c) : Below B a c := h.trans (k.mono hB)
theorem below_self {a b c : World} (h : Below a.heap.size a b) (k : Below b.heap.size b c) : Below a.heap.size a c := below_then h h.size k
/-! ### blocks -/
theorem blk_lt {w : World} {g : Nat} {o : Obj} (h : w.heap[g]? = some o) : g < w.heap.size := (Array.getElem?_eq_some_iff.1 h).1
theorem blk_cell {w : World} {g i : Nat} {cs : Array Value} {t : TypeId} {fr : Nat × Nat} (h : w.heap[g]? = some (.cells cs t fr)) : w.cell? ⟨g, i, none⟩ = cs[i]? := cell_of_row w g i cs t fr h
theorem blk_frozen {w : World} {g i : Nat} {cs : Array Value} {t : TypeId} (h : w.heap[g]? = some (.cells cs t (0, 0))) : w.frozen? ⟨g, i, none⟩ = false := by simp [World.frozen?, h]
theorem blk_set {w : World} {g : Nat} {cs : Array Value} {t : TypeId} {fr : Nat × Nat} (h : w.heap[g]? = some (.cells cs t fr)) (i : Nat) (u : Value) : (w.setCell ⟨g, i, none⟩ u).heap[g]? = some (.cells (cs.setIfInBounds i u) t fr) := by
 simp [World.setCell, Array.getElem?_modify, h]
theorem blk_far {w : World} {g : Nat} {o : Obj} (h : w.heap[g]? = some o) {p : Addr} (hp : g ≠ p.block) (u : Value) : (w.setCell p u).heap[g]? = some o := (Below.heap_setCell w p u g hp).trans h
theorem blk_alloc {w : World} {g : Nat} {o : Obj} (h : w.heap[g]? = some o) (o' : Obj) : (w.alloc o').heap[g]? = some o := (Below.heap_alloc w o' g (blk_lt h)).trans h
theorem blk_new (w : World) (o : Obj) : (w.alloc o).heap[w.heap.size]? = some o := heap_alloc_new w o
theorem blk_below {w w' : World} {g : Nat} {o : Obj} (h : w.heap[g]? = some o) {B : Nat} (hb : Below B w w') (hg : g < B) : w'.heap[g]? = some o := (hb.block g hg).trans h
theorem blk_grown {w w' : World} {g : Nat} {o : Obj} {row : Option Nat} (h : w.heap[g]? = some o) (hk : w.grownBy w' row) (hg : some g ≠ row) : w'.heap[g]? = some o := (hk.block g (blk_lt h) hg).trans h
theorem cell_lt {w : World} {b o : Nat} {v : Value} (h : w.cell? ⟨b, o, none⟩ = some v) : b < w.heap.size := World.block_lt_of_cell? w ⟨b, o, none⟩ h
theorem cell_same {w w' : World} {b : Nat} (h : w'.heap[b]? = w.heap[b]?) (o : Nat) : w'.cell? ⟨b, o, none⟩ = w.cell? ⟨b, o, none⟩ := World.cell?_of_block (w := w) (a := ⟨b, o, none⟩) h
/-! ### a region that draws its order and only reads, its callees making new memory at most: walked once -/
/-! ### kinds -/
/-- 'K w ok x cs': cs are the cells of x; all blocks that they lead to are ok. -/
structure Kind (α : Type) where
 sz : Nat
 K : World → (Nat → Prop) → α → List Value → Prop
 len : ∀ {w : World} {ok : Nat → Prop} {x : α} {cs : List Value}, K w ok x cs → cs.length = sz
 one : ∀ {w : World} {ok : Nat → Prop} {x : α} {cs : List Value}, K w ok x cs → ∀ u ∈ cs, u.oneCell' = true
 weaken : ∀ {w : World} {ok ok' : Nat → Prop} {x : α} {cs : List Value}, (∀ k, ok k → ok' k) → K w ok x cs → K w ok' x cs
 bound : ∀ {w : World} {ok : Nat → Prop} {x : α} {cs : List Value}, K w ok x cs → K w (fun k => ok k ∧ k < w.heap.size) x cs
 move : ∀ {w w' : World} {ok : Nat → Prop} {x : α} {cs : List Value}, (∀ k, ok k → w'.heap[k]? = w.heap[k]?) → K w ok x cs → K w' ok x cs
namespace Kind
section
variable {α : Type} {d : Kind α} {w w' : World} {ok ok' : Nat → Prop} {x : α} {cs : List Value} {A : Option Addr} {n c : Nat} {l : List α}
theorem step (h : d.K w ok x cs) (hm : ∀ k, ok k → k < w.heap.size → w'.heap[k]? = w.heap[k]?) : d.K w' ok x cs :=
 d.weaken (fun _ hk => hk.1) (d.move (fun k hk => hm k hk.1 hk.2) (d.bound h))
theorem below (h : d.K w ok x cs) (hb : Below w.heap.size w w') : d.K w' ok x cs := step h fun k _ hk => hb.block k hk
/-- The slice at A of n elements reads as the list l. -/
def Rd (d : Kind α) (w : World) (ok : Nat → Prop) (A : Option Addr) (n : Nat) (l : List α) : Prop :=
 l.length = n ∧ (0 < n → ∃ b off, A = some ⟨b, off, none⟩ ∧ ok b ∧ b < w.heap.size ∧ ∀ i x, l[i]? = some x → ∃ cs, d.K w ok x cs ∧ ∀ j u, cs[j]? = some u → w.cell? ⟨b, off + i * d.sz + j, none⟩ = some u)
theorem Rd.nil (d : Kind α) (w : World) (ok : Nat → Prop) (A : Option Addr) : d.Rd w ok A 0 [] := ⟨rfl, fun h => absurd h (by omega)⟩
theorem Rd.weaken (h : d.Rd w ok A n l) (hok : ∀ k, ok k → ok' k) : d.Rd w ok' A n l :=
 ⟨h.1, fun hn => by
  obtain ⟨b, off, e, hb, hlt, hc⟩ := h.2 hn
  exact ⟨b, off, e, hok _ hb, hlt, fun i x hx => by
   obtain ⟨cs, hk, hcs⟩ := hc i x hx
   exact ⟨cs, d.weaken hok hk, hcs⟩⟩⟩
theorem Rd.bound (h : d.Rd w ok A n l) : d.Rd w (fun k => ok k ∧ k < w.heap.size) A n l :=
 ⟨h.1, fun hn => by
  obtain ⟨b, off, e, hb, hlt, hc⟩ := h.2 hn
  exact ⟨b, off, e, ⟨hb, hlt⟩, hlt, fun i x hx => by
   obtain ⟨cs, hk, hcs⟩ := hc i x hx
   exact ⟨cs, d.bound hk, hcs⟩⟩⟩
theorem Rd.move (h : d.Rd w ok A n l) (hm : ∀ k, ok k → w'.heap[k]? = w.heap[k]?) : d.Rd w' ok A n l :=
 ⟨h.1, fun hn => by
  obtain ⟨b, off, e, hb, hlt, hc⟩ := h.2 hn
  have hlt' : b < w'.heap.size := by
   have h1 : w'.heap[b]? = some w.heap[b] := by rw [hm b hb, Array.getElem?_eq_getElem hlt]
   exact blk_lt h1
  exact ⟨b, off, e, hb, hlt', fun i x hx => by
   obtain ⟨cs, hk, hcs⟩ := hc i x hx
   exact ⟨cs, d.move hm hk, fun j u hu => (cell_same (hm b hb) _).trans (hcs j u hu)⟩⟩⟩
theorem Rd.step (h : d.Rd w ok A n l) (hm : ∀ k, ok k → k < w.heap.size → w'.heap[k]? = w.heap[k]?) : d.Rd w' ok A n l :=
 (h.bound.move fun k hk => hm k hk.1 hk.2).weaken fun _ hk => hk.1
theorem Rd.below (h : d.Rd w ok A n l) (hb : Below w.heap.size w w') : d.Rd w' ok A n l := h.step fun k _ hk => hb.block k hk
theorem Rd.at_ (h : d.Rd w ok A n l) {i : Nat} (hi : i < l.length) : ∃ b off cs, A = some ⟨b, off, none⟩ ∧ b < w.heap.size ∧ d.K w ok l[i] cs ∧ ∀ j u, cs[j]? = some u → w.cell? ⟨b, off + i * d.sz + j, none⟩ = some u := by
 obtain ⟨b, off, e, _, hlt, hc⟩ := h.2 (by have := h.1; omega)
 obtain ⟨cs, hk, hcs⟩ := hc i _ (List.getElem?_eq_getElem hi)
 exact ⟨b, off, cs, e, hlt, hk, hcs⟩
/-- A cut of a slice, as the model tells its address. -/
theorem Rd.cut (h : d.Rd w ok A n l) {k m : Nat} (hk : k ≤ m) (hm : m ≤ n) (hc : n ≤ c) :
  d.Rd w ok (if c = k then A else A.map (·.add (k * d.sz))) (m - k) ((l.take m).drop k) := by
 refine ⟨by rw [List.length_drop, List.length_take]; have := h.1; omega, fun hn => ?_⟩
 obtain ⟨b, off, rfl, hb, hlt, hcell⟩ := h.2 (by omega)
 rw [if_neg (by omega)]
 refine ⟨b, off + k * d.sz, ?_, hb, hlt, fun i x hx => ?_⟩
 ·show some ((⟨b, off, none⟩ : Addr).add (k * d.sz)) = _
  rw [Addr.add_lit]
 ·rw [List.getElem?_drop, List.getElem?_take] at hx
  split at hx
  ·obtain ⟨cs, hK, hcs⟩ := hcell (k + i) x hx
   refine ⟨cs, hK, fun j u hu => ?_⟩
   have := hcs j u hu
   rw [Nat.add_mul] at this
   rw [← this]
   congr 2
   omega
  ·cases hx
end
/-! #### single cells -/
def scalar {α : Type} (enc : α → Value) (h1 : ∀ x, (enc x).oneCell' = true) : Kind α where
 sz := 1
 K := fun _ _ x cs => cs = [enc x]
 len := fun h => by rw [h]; rfl
 one := fun h u hu => by
  rw [h] at hu
  rw [List.mem_singleton.1 hu]
  exact h1 _
 weaken := fun _ h => h
 bound := fun h => h
 move := fun _ h => h
def int : Kind Int := scalar (Value.int .i64) (fun _ => rfl)
/-! #### rows of the call's own -/
/-- The elements' cells in line. -/
def Reps {α : Type} (d : Kind α) (w : World) (ok : Nat → Prop) (l : List α) (cs : List Value) : Prop :=
 cs.length = l.length * d.sz ∧ ∀ i x, l[i]? = some x → d.K w ok x ((cs.drop (i * d.sz)).take d.sz)
section
variable {α : Type} {d : Kind α} {w w' : World} {ok ok' : Nat → Prop} {x : α} {c cs : List Value} {l : List α}
theorem Reps.nil (d : Kind α) (w : World) (ok : Nat → Prop) : d.Reps w ok [] [] := ⟨by simp, fun j p h => by simp at h⟩
theorem Reps.snoc (h : d.Reps w ok l cs) (hx : d.K w ok x c) : d.Reps w ok (l ++ [x]) (cs ++ c) := by
 have hc := d.len hx
 refine ⟨by rw [List.length_append, h.1, hc, List.length_append, List.length_singleton, Nat.add_mul, Nat.one_mul], fun j q hq => ?_⟩
 rcases Nat.lt_or_ge j l.length with hj | hj
 ·rw [List.getElem?_append_left hj] at hq
  have h1 : j * d.sz + d.sz ≤ cs.length := by rw [h.1, ← Nat.succ_mul]; exact Nat.mul_le_mul_right _ hj
  rw [List.drop_append_of_le_length (by omega), List.take_append_of_le_length (by rw [List.length_drop]; omega)]
  exact h.2 j q hq
 ·have hj' : j = l.length := by
   have := (List.getElem?_eq_some_iff.1 hq).1
   rw [List.length_append, List.length_singleton] at this
   omega
  subst hj'
  have hq' : x = q := by simpa using hq
  subst hq'
  rw [← h.1, List.drop_left, ← hc, List.take_length]
  exact hx
theorem Reps.imp (h : d.Reps w ok l cs) (hK : ∀ x c, d.K w ok x c → d.K w' ok' x c) : d.Reps w' ok' l cs := ⟨h.1, fun j p hj => hK _ _ (h.2 j p hj)⟩
theorem Reps.append {l2 : List α} {cs2 : List Value} (h : d.Reps w ok l cs) (h2 : d.Reps w ok l2 cs2) : d.Reps w ok (l ++ l2) (cs ++ cs2) := by
 refine ⟨by rw [List.length_append, h.1, h2.1, List.length_append, Nat.add_mul], fun j q hq => ?_⟩
 rcases Nat.lt_or_ge j l.length with hj | hj
 ·rw [List.getElem?_append_left hj] at hq
  have h1 : j * d.sz + d.sz ≤ cs.length := by rw [h.1, ← Nat.succ_mul]; exact Nat.mul_le_mul_right _ hj
  rw [List.drop_append_of_le_length (by omega), List.take_append_of_le_length (by rw [List.length_drop]; omega)]
  exact h.2 j q hq
 ·rw [List.getElem?_append_right hj] at hq
  have e : j * d.sz = cs.length + (j - l.length) * d.sz := by rw [h.1, ← Nat.add_mul]; congr 1; omega
  rw [e, ← List.drop_drop, List.drop_left]
  exact h2.2 _ q hq
theorem Reps.one (h : d.Reps w ok l cs) : ∀ u ∈ cs, u.oneCell' = true := by
 intro u hu
 obtain ⟨i, hi, rfl⟩ := List.mem_iff_getElem.1 hu
 have hlen := h.1
 rcases Nat.eq_zero_or_pos d.sz with h0 | h0
 ·rw [h0, Nat.mul_zero] at hlen; omega
 ·have hq : i / d.sz < l.length := by rw [Nat.div_lt_iff_lt_mul h0]; omega
  have hk := h.2 (i / d.sz) _ (List.getElem?_eq_getElem hq)
  refine d.one hk _ ?_
  have hmod := Nat.mod_lt i h0
  have hdm := Nat.div_add_mod' i d.sz
  refine List.mem_iff_getElem.2 ⟨i % d.sz, ?_, ?_⟩
  ·rw [List.length_take, List.length_drop]; omega
  ·rw [List.getElem_take, List.getElem_drop]
   congr 1
/-- v owns a row that reads as l; what its elements lead to is ok. -/
def Own (d : Kind α) (e : TypeId) (w : World) (ok : Nat → Prop) (base : Nat) (v : Value) (l : List α) : Prop :=
 ∃ xs, w.ownsRow base e d.sz v l.length xs ∧ d.Reps w ok l xs
variable {e : TypeId} {base : Nat} {v : Value}
theorem Own.nil (d : Kind α) (e : TypeId) (w : World) (ok : Nat → Prop) (base : Nat) : d.Own e w ok base (.slice none 0 0) [] := ⟨[], World.ownsRow_nil _ _ _ _, Reps.nil _ _ _⟩
theorem own_move {base : Nat} {e : TypeId} {size n : Nat} {v : Value} {xs : List Value} (h : w.ownsRow base e size v n xs) (hm : ∀ k, v.ownBlock = some k → w'.heap[k]? = w.heap[k]?) : w'.ownsRow base e size v n xs := by
 obtain ⟨h1, h2⟩ := h
 refine ⟨h1, ?_⟩
 rcases h2 with h2 | ⟨g, cap, cur, rfl, hg, hh, r⟩
 ·exact .inl h2
 ·exact .inr ⟨g, cap, cur, rfl, hg, (hm g (by simp [Value.ownBlock])).trans hh, r⟩
theorem Own.step (h : d.Own e w ok base v l) (hv : ∀ k, v.ownBlock = some k → w'.heap[k]? = w.heap[k]?) (hm : ∀ k, ok k → k < w.heap.size → w'.heap[k]? = w.heap[k]?) : d.Own e w' ok base v l := by
 obtain ⟨xs, ho, hr⟩ := h
 exact ⟨xs, own_move ho hv, hr.imp fun x c hk => d.step hk hm⟩
theorem Own.lt (h : d.Own e w ok base v l) : ∀ k, v.ownBlock = some k → base ≤ k ∧ k < w.heap.size := by
 obtain ⟨xs, ho, hr⟩ := h
 exact ho.lt
theorem Own.below (h : d.Own e w ok base v l) (hb : Below w.heap.size w w') : d.Own e w' ok base v l :=
 h.step (fun k hk => hb.block k (h.lt k hk).2) (fun k _ hk => hb.block k hk)
theorem Own.weaken (h : d.Own e w ok base v l) (hok : ∀ k, ok k → ok' k) : d.Own e w ok' base v l := by
 obtain ⟨xs, ho, hr⟩ := h
 exact ⟨xs, ho, hr.imp fun x c hk => d.weaken hok hk⟩
theorem Own.lower {base' : Nat} (h : d.Own e w ok base v l) (hb : base' ≤ base) : d.Own e w ok base' v l := by
 obtain ⟨xs, ⟨h1, h2⟩, hr⟩ := h
 refine ⟨xs, ⟨h1, ?_⟩, hr⟩
 rcases h2 with h2 | ⟨g, cap, cur, rfl, hg, r⟩
 ·exact .inl h2
 ·exact .inr ⟨g, cap, cur, rfl, Nat.le_trans hb hg, r⟩
/-- What is owned is a slice that reads. -/
theorem Own.form (h : d.Own e w ok base v l) : ∃ A c, v = .slice A l.length c ∧ l.length ≤ c ∧ c ≤ maxLen ∧ (0 < l.length → ∃ g, A = some ⟨g, 0, none⟩) ∧ (∀ a, A = some a → a = ⟨a.block, 0, none⟩) ∧ d.Rd w (fun k => ok k ∨ v.ownBlock = some k) A l.length l := by
 obtain ⟨xs, ho, hr⟩ := h
 rcases ho.2 with ⟨rfl, h0⟩ | ⟨g, cap, cur, rfl, hg, hh, hn, hm, hs, ht⟩
 ·rw [h0]
  have : l = [] := List.eq_nil_of_length_eq_zero h0
  subst this
  exact ⟨none, 0, rfl, Nat.le_refl _, Nat.zero_le _, fun h => absurd h (by omega), (fun a h => by cases h), Rd.nil _ _ _ _⟩
 ·refine ⟨some ⟨g, 0, none⟩, cap, rfl, hn, hm, fun _ => ⟨g, rfl⟩, (fun a h => by injection h with h; subst h; rfl), rfl, fun hp => ⟨g, 0, rfl, .inr (by simp [Value.ownBlock]), blk_lt hh, fun i x hx => ?_⟩⟩
  refine ⟨_, d.weaken (fun k hk => .inl hk) (hr.2 i x hx), fun j u hu => ?_⟩
  rw [blk_cell hh]
  rw [List.getElem?_take] at hu
  split at hu
  ·rename_i hj
   rw [List.getElem?_drop, ← ht, List.getElem?_take] at hu
   split at hu
   ·rw [← hu]; simp
   ·cases hu
  ·cases hu
end
end Kind
end Go.Proofs.YteadghhmoggjnaaB
end
section
/- A row that is written in place: what it reads as behind a store of one element, behind clear, and what a cut of it owns. -/
set_option linter.unusedVariables false
set_option linter.unusedSimpArgs false
namespace Go.Proofs.YteadghhmoggjnaaB
open Go.RowKit
theorem setCells_blk (g : Nat) (e : TypeId) (fr : Nat × Nat) : ∀ (vs : List Value) (o : Nat) (w : World) (cur : Array Value), w.heap[g]? = some (.cells cur e fr) → o + vs.length ≤ cur.size →
  (w.setCells g o vs).heap[g]? = some (.cells (cur.toList.take o ++ vs ++ cur.toList.drop (o + vs.length)).toArray e fr)
 | [], o, w, cur, hg, hl => by
  simp only [World.setCells, List.append_nil, List.length_nil, Nat.add_zero, List.take_append_drop, Array.toArray_toList]
  exact hg
 | v :: r, o, w, cur, hg, hl => by
  simp only [World.setCells]
  simp only [List.length_cons] at hl
  rw [setCells_blk g e fr r (o + 1) _ _ (blk_set hg o v) (by simp; omega)]
  congr 2
  apply Array.ext'
  simp only [Array.toList_setIfInBounds]
  have ho : o < cur.toList.length := by simp; omega
  rw [List.take_set, List.take_succ_eq_append_getElem ho]
  have hlo : (cur.toList.take o).length = o := by rw [List.length_take]; omega
  have e1 : (cur.toList.take o ++ [cur.toList[o]]).set o v = cur.toList.take o ++ [v] := by
   rw [List.set_append_right _ _ (by omega), hlo, Nat.sub_self]
   rfl
  rw [e1, List.drop_set_of_lt (by omega)]
  simp [Nat.add_assoc, Nat.add_comm 1]
theorem setCells_other (g : Nat) : ∀ (vs : List Value) (o : Nat) (w : World) (k : Nat), k ≠ g → (w.setCells g o vs).heap[k]? = w.heap[k]?
 | [], _, _, _, _ => rfl
 | v :: r, o, w, k, hk => by
  simp only [World.setCells]
  rw [setCells_other g r (o + 1) _ k hk]
  exact Below.heap_setCell w ⟨g, o, none⟩ v k hk
namespace Kind
/-- Block g is a row of 'cap' places whose first elements read as m. -/
def RowAt {α : Type} (d : Kind α) (e : TypeId) (w : World) (ok : Nat → Prop) (g cap : Nat) (m : List α) : Prop :=
 ∃ cur, w.heap[g]? = some (.cells cur e (0, 0)) ∧ cur.size = cap * d.sz ∧ m.length ≤ cap ∧ cap ≤ maxLen ∧ d.Reps w ok m (cur.toList.take (m.length * d.sz))
section
variable {α : Type} {d : Kind α} {e : TypeId} {w w' : World} {ok ok' : Nat → Prop} {g cap : Nat} {m : List α} {x : α} {cs : List Value}
theorem Own.rowAt {base n c : Nat} {A : Option Addr} (h : d.Own e w ok base (.slice A n c) m) (hn : 0 < m.length) : ∃ g, A = some ⟨g, 0, none⟩ ∧ n = m.length ∧ base ≤ g ∧ d.RowAt e w ok g c m := by
 obtain ⟨xs, ho, hr⟩ := h
 rcases ho.2 with ⟨_, h0⟩ | ⟨g, cap, cur, hv, hg, hh, hn, hm, hs, ht⟩
 ·omega
 ·injection hv with h1 h2 h3
  subst h1; subst h2; subst h3
  exact ⟨g, rfl, rfl, hg, cur, hh, hs, hn, hm, by rw [ht]; exact hr⟩
theorem RowAt.own {base : Nat} (h : d.RowAt e w ok g cap m) (hb : base ≤ g) : d.Own e w ok base (.slice (some ⟨g, 0, none⟩) m.length cap) m := by
 obtain ⟨cur, hh, hs, hl, hm, hr⟩ := h
 exact ⟨_, ⟨hr.1, .inr ⟨g, cap, cur, rfl, hb, hh, hl, hm, hs, rfl⟩⟩, hr⟩
theorem RowAt.lt (h : d.RowAt e w ok g cap m) : g < w.heap.size := by
 obtain ⟨cur, hh, _⟩ := h
 exact blk_lt hh
theorem RowAt.cells {i : Nat} (h : d.RowAt e w ok g cap m) (hi : i < m.length) : ∃ cs, d.K w ok m[i] cs ∧ ∀ j u, cs[j]? = some u → w.cell? ⟨g, i * d.sz + j, none⟩ = some u := by
 obtain ⟨cur, hh, hs, hl, hm, hr⟩ := h
 have hk := hr.2 i _ (List.getElem?_eq_getElem hi)
 refine ⟨_, hk, fun j u hu => ?_⟩
 rw [blk_cell hh]
 rw [List.getElem?_take] at hu
 split at hu
 ·rw [List.getElem?_drop, List.getElem?_take] at hu
  split at hu
  ·rw [← hu]; simp
  ·cases hu
 ·cases hu
theorem RowAt.cells' {i : Nat} (h : d.RowAt e w ok g cap m) (hx : m[i]? = some x) : ∃ cs, d.K w ok x cs ∧ ∀ j u, cs[j]? = some u → w.cell? ⟨g, i * d.sz + j, none⟩ = some u := by
 obtain ⟨hi, rfl⟩ := List.getElem?_eq_some_iff.1 hx
 exact h.cells hi
theorem RowAt.frozen (h : d.RowAt e w ok g cap m) (j : Nat) : w.frozen? ⟨g, j, none⟩ = false := by
 obtain ⟨cur, hh, _⟩ := h
 exact blk_frozen hh
theorem RowAt.step (h : d.RowAt e w ok g cap m) (hg : w'.heap[g]? = w.heap[g]?) (hm : ∀ k, ok k → k < w.heap.size → w'.heap[k]? = w.heap[k]?) : d.RowAt e w' ok g cap m := by
 obtain ⟨cur, hh, hs, hl, hc, hr⟩ := h
 exact ⟨cur, hg.trans hh, hs, hl, hc, hr.imp fun x c hk => d.step hk hm⟩
theorem RowAt.below (h : d.RowAt e w ok g cap m) (hb : Below w.heap.size w w') : d.RowAt e w' ok g cap m := h.step (hb.block g h.lt) (fun k _ hk => hb.block k hk)
/-- One element is stored. -/
theorem RowAt.set {i : Nat} (h : d.RowAt e w ok g cap m) (hi : i < m.length) (hx : d.K w ok x cs) (hg : ∀ k, ok k → k ≠ g) : d.RowAt e (w.setCells g (i * d.sz) cs) ok g cap (m.set i x) := by
 obtain ⟨cur, hh, hs, hl, hm, hr⟩ := h
 have hcs := d.len hx
 have hi' : i * d.sz + d.sz ≤ m.length * d.sz := by rw [← Nat.succ_mul]; exact Nat.mul_le_mul_right _ hi
 have hc : m.length * d.sz ≤ cur.size := by rw [hs]; exact Nat.mul_le_mul_right _ hl
 have hb := setCells_blk g e (0, 0) cs (i * d.sz) w cur hh (by omega)
 have hmv : ∀ k, ok k → k < w.heap.size → (w.setCells g (i * d.sz) cs).heap[k]? = w.heap[k]? := fun k hk _ => setCells_other g cs _ w k (hg k hk)
 refine ⟨_, hb, ?_, by simpa using hl, hm, ?_⟩
 ·simp only [List.size_toArray, List.length_append, List.length_take, List.length_drop, Array.length_toList]
  omega
 ·rw [List.length_set]
  have hlen : (cur.toList.take (i * d.sz) ++ cs ++ cur.toList.drop (i * d.sz + cs.length)).length = cur.size := by
   simp only [List.length_append, List.length_take, List.length_drop, Array.length_toList]
   omega
  refine ⟨by rw [List.length_set, List.length_take]; simp only [hlen]; omega, fun j y hy => ?_⟩
  have hj : j < m.length := by
   have := (List.getElem?_eq_some_iff.1 hy).1
   simpa using this
  have hj' : j * d.sz + d.sz ≤ m.length * d.sz := by rw [← Nat.succ_mul]; exact Nat.mul_le_mul_right _ hj
  rw [List.drop_take, List.take_take, Nat.min_eq_left (by omega)]
  by_cases hij : j = i
  ·subst hij
   have hxy : x = y := by
    rw [List.getElem?_set_self hi] at hy
    injection hy
   subst hxy
   have e1 : (cur.toList.take (j * d.sz) ++ cs ++ cur.toList.drop (j * d.sz + cs.length)).drop (j * d.sz) = cs ++ cur.toList.drop (j * d.sz + cs.length) := by
    have hlt : (cur.toList.take (j * d.sz)).length = j * d.sz := by rw [List.length_take, Array.length_toList]; omega
    rw [List.append_assoc]
    conv => lhs; arg 1; rw [← hlt]
    rw [List.drop_left]
   have e3 : (cs ++ cur.toList.drop (j * d.sz + cs.length)).take d.sz = cs := by
    conv => lhs; arg 1; rw [← hcs]
    exact List.take_left
   rw [e1, e3]
   exact d.step hx hmv
  ·rw [List.getElem?_set_ne (fun e => hij e.symm)] at hy
   have h1 := hr.2 j y hy
   rw [List.drop_take, List.take_take, Nat.min_eq_left (by omega)] at h1
   have e2 : ((cur.toList.take (i * d.sz) ++ cs ++ cur.toList.drop (i * d.sz + cs.length)).drop (j * d.sz)).take d.sz = (cur.toList.drop (j * d.sz)).take d.sz := by
    apply List.ext_getElem?
    intro q
    rw [List.getElem?_take, List.getElem?_take]
    split
    ·rename_i hq
     rw [List.getElem?_drop, List.getElem?_drop]
     rcases Nat.lt_or_ge j i with h2 | h2
     ·have : j * d.sz + d.sz ≤ i * d.sz := by rw [← Nat.succ_mul]; exact Nat.mul_le_mul_right _ h2
      rw [List.append_assoc, List.getElem?_append_left (by rw [List.length_take, Array.length_toList]; omega), List.getElem?_take, if_pos (by omega)]
     ·have : i * d.sz + d.sz ≤ j * d.sz := by rw [← Nat.succ_mul]; exact Nat.mul_le_mul_right _ (by omega)
      have hla : (cur.toList.take (i * d.sz) ++ cs).length = i * d.sz + d.sz := by
       rw [List.length_append, List.length_take, show cur.toList.length = cur.size from Array.length_toList]; omega
      rw [List.getElem?_append_right (by omega), List.getElem?_drop]
      congr 1
      omega
    ·rfl
   rw [e2]
   exact d.step h1 hmv
end
end Kind
end Go.Proofs.YteadghhmoggjnaaB
end
end
section
section
/- append onto a row of the call's own, told by kinds: what is appended may be nil, empty, one element written out, or any slice that reads. -/
set_option linter.unusedVariables false
set_option linter.unusedSimpArgs false
namespace Go.Proofs.YteadghhmoggjnaaB
open Go.RowKit
namespace Kind
section
variable {α : Type} {d : Kind α} {w w' : World} {ok ok' : Nat → Prop} {e : TypeId} {base : Nat} {v : Value} {l l1 l2 : List α} {cs news : List Value} {x : α}
/-- The cells of a slice that reads, all in line. -/
theorem Rd.reps {A : Option Addr} {n : Nat} (h : d.Rd w ok A n l) : ∃ news, d.Reps w ok l news ∧ ∀ ad, A = some ad → 0 < n → ∀ j u, news[j]? = some u → w.cell? (ad.add j) = some u := by
 rcases Nat.eq_zero_or_pos n with h0 | h0
 ·have : l = [] := List.eq_nil_of_length_eq_zero (h.1.trans h0)
  subst this
  exact ⟨[], Reps.nil _ _ _, fun ad _ hp => by omega⟩
 ·obtain ⟨b, off, rfl, hb, hlt, hc⟩ := h.2 h0
  have key : ∀ k, k ≤ l.length → ∃ news, d.Reps w ok (l.take k) news ∧ ∀ j u, news[j]? = some u → w.cell? ⟨b, off + j, none⟩ = some u := by
   intro k
   induction k with
   | zero => exact fun _ => ⟨[], by simpa using Reps.nil _ _ _, fun j u hj => by simp at hj⟩
   | succ k ih =>
    intro hk
    obtain ⟨news, hr, hcell⟩ := ih (by omega)
    have hkl : k < l.length := by omega
    obtain ⟨cs, hK, hcs⟩ := hc k _ (List.getElem?_eq_getElem hkl)
    refine ⟨news ++ cs, ?_, fun j u hj => ?_⟩
    ·rw [List.take_succ_eq_append_getElem hkl]
     exact hr.snoc hK
    ·have hlen : news.length = k * d.sz := by rw [hr.1, List.length_take, Nat.min_eq_left (by omega)]
     rcases Nat.lt_or_ge j news.length with hj1 | hj1
     ·rw [List.getElem?_append_left hj1] at hj
      exact hcell j u hj
     ·rw [List.getElem?_append_right hj1] at hj
      have := hcs _ u hj
      rw [← this]
      congr 2
      omega
  obtain ⟨news, hr, hcell⟩ := key l.length (Nat.le_refl _)
  rw [List.take_length] at hr
  refine ⟨news, hr, fun ad had _ j u hj => ?_⟩
  injection had with had
  subst had
  rw [Addr.add_lit]
  exact hcell j u hj
end
end Kind
section
variable {α : Type} {d : Kind α} {w w' : World} {ok ok' : Nat → Prop} {e : TypeId} {base : Nat} {v : Value} {l l1 l2 : List α} {cs news : List Value} {x : α} {P : Program}
theorem run_append_of_nil (w : World) (base : Nat) (t ty e : TypeId) (i : TypeInfo) (size : Nat) (ht : P.underlying t = some (.slice e)) (hi : P.info? e = some i)
  (v : Value) (n : Nat) (xs : List Value) (hown : w.ownsRow base e size v n xs) (c : Nat) : (Builtin.append_ #[t, t] ty #[v, .slice none 0 c]).run P w = .ok v w := by
 rcases hown.2 with ⟨rfl, rfl⟩ | ⟨g, cap, cur, rfl, _, _, hnc, _⟩
 ·simp [Builtin.append_, run_underlying ht, sizeOf, typeInfo, hi, Builtin.lenOf, Builtin.firstCells]
 ·simp [Builtin.append_, run_underlying ht, sizeOf, typeInfo, hi, Builtin.lenOf, Builtin.firstCells, hnc, storeCells]
theorem run_append_kind (w : World) (d : Kind α) (t ty e : TypeId) (z : Value) (bytes : Nat) (ht : P.underlying t = some (.slice e)) (hinfo : (P.info? e).map (fun i => (i.zero, i.size, i.bytes)) = some (some z, d.sz, bytes))
  (hzs : z.cells.size = d.sz) (hs0 : 0 < d.sz) (hb0 : 0 < bytes) (v : Value) (l1 : List α) (hown : d.Own e w ok base v l1) (A : Option Addr) (m c : Nat) (l2 : List α) (news : List Value)
  (hR : d.Reps w ok l2 news) (hm : l2.length = m) (hA : A = none → m = 0) (hc : ∀ ad, A = some ad → 0 < m → ∀ j u, news[j]? = some u → w.cell? (ad.add j) = some u) (hok : ∀ k, ok k → v.ownBlock ≠ some k)
  (hbytes : (l1.length + m) * bytes ≤ 140737488355328) (hbase : base ≤ w.heap.size) :
  ∃ v' w', (Builtin.append_ #[t, t] ty #[v, .slice A m c]).run P w = .ok v' w' ∧ d.Own e w' ok base v' (l1 ++ l2) ∧ w.grownBy w' v.ownBlock ∧ (v'.ownBlock = v.ownBlock ∨ v'.ownBlock = some w.heap.size) ∧ (v' = .slice none 0 0 ↔ v = .slice none 0 0 ∧ m = 0) := by
 obtain ⟨i0, hi, hzz⟩ := Option.map_eq_some_iff.1 hinfo
 simp only [Prod.mk.injEq] at hzz
 obtain ⟨hz0, hz1, hz2⟩ := hzz
 obtain ⟨xs, hx, hr⟩ := hown
 have hlen : l1.length + m ≤ 140737488355328 := Nat.le_trans (Nat.le_mul_of_pos_right _ hb0) hbytes
 cases A with
 | none =>
  have h0 := hA rfl
  subst h0
  have hl2 : l2 = [] := List.eq_nil_of_length_eq_zero hm
  subst hl2
  exact ⟨v, w, run_append_of_nil w base t ty e i0 d.sz ht hi v _ xs hx c, ⟨xs, by simpa using hx, by simpa using hr⟩, World.grownBy.refl w _, .inl rfl, by simp⟩
 | some ad =>
  have hcells : ∀ j u, news[j]? = some u → w.cell? (ad.add j) = some u := by
   intro j u hu
   rcases Nat.eq_zero_or_pos m with h0 | h0
   ·have hn : news = [] := List.eq_nil_of_length_eq_zero (by rw [hR.1, hm, h0, Nat.zero_mul])
    rw [hn] at hu
    simp at hu
   ·exact hc ad rfl h0 j u hu
  obtain ⟨v', w', hrun, h2, h3, h4, h5⟩ := run_append_own_at (P := P) w base t ty e i0 z d.sz bytes ht hi hz0 hz1 hz2 hzs hs0 v l1.length xs hx ad m c news (by rw [hR.1, hm]) hcells hR.one (by unfold maxLen; omega) hbytes hbase
  refine ⟨v', w', hrun, ⟨xs ++ news, by rw [List.length_append, hm]; exact h2, ?_⟩, h3, h5, h4⟩
  exact (hr.append hR).imp fun x c hk => d.step hk fun k hk hlt => h3.block k hlt (fun e => hok k hk e.symm)
theorem wp_append_kind {o : Oper} {a : Act} {K : Act → World → Prop} {Q : Exit → Act → World → Prop} (w : World) (d : Kind α) (s x : Operand) (t : TypeId) (ho : o.op = .call { callee := .builtin .append, args := #[s, x], argTypes := #[t, t] })
  (e : TypeId) (z : Value) (bytes : Nat) (ht : P.underlying t = some (.slice e)) (hinfo : (P.info? e).map (fun i => (i.zero, i.size, i.bytes)) = some (some z, d.sz, bytes))
  (hzs : z.cells.size = d.sz) (hs0 : 0 < d.sz) (hb0 : 0 < bytes) (v : Value) (l1 : List α) (hs : a.eval s = v) (hown : d.Own e w ok base v l1) (A : Option Addr) (m c : Nat) (l2 : List α) (news : List Value) (hx : a.eval x = .slice A m c)
  (hR : d.Reps w ok l2 news) (hm : l2.length = m) (hA : A = none → m = 0) (hc : ∀ ad, A = some ad → 0 < m → ∀ j u, news[j]? = some u → w.cell? (ad.add j) = some u) (hok : ∀ k, ok k → v.ownBlock ≠ some k)
  (hbytes : (l1.length + m) * bytes ≤ 140737488355328) (hbase : base ≤ w.heap.size)
  (h : ∀ v' w', d.Own e w' ok base v' (l1 ++ l2) → w.grownBy w' v.ownBlock → (v'.ownBlock = v.ownBlock ∨ v'.ownBlock = some w.heap.size) → K (a.put o.dst v') w') : o.wp P a w K Q := by
 obtain ⟨v', w', hr, h2, h3, h4, _⟩ := run_append_kind (P := P) w d t o.type e z bytes ht hinfo hzs hs0 hb0 v l1 hown A m c l2 news hR hm hA hc hok hbytes hbase
 unfold Oper.wp execOp
 simp only [ho, resolve, invoke, builtin, Sem.run_bind, Sem.run_pure, Result.andThen_ok, List.map_toArray, List.map_cons, List.map_nil, hs, hx, hr]
 exact h v' w' h2 h3 h4
/-- append of any slice that reads. -/
theorem wpList_append_rd {ops : Array Oper} {rest : List Oper} {o : Oper} {a : Act} {Q : Exit → Act → World → Prop} (w : World) (d : Kind α) (hgd : o.guard = none) (s x : Operand) (t : TypeId) (ho : o.op = .call { callee := .builtin .append, args := #[s, x], argTypes := #[t, t] })
  (e : TypeId) (z : Value) (bytes : Nat) (ht : P.underlying t = some (.slice e)) (hinfo : (P.info? e).map (fun i => (i.zero, i.size, i.bytes)) = some (some z, d.sz, bytes))
  (hzs : z.cells.size = d.sz) (hs0 : 0 < d.sz) (hb0 : 0 < bytes) (v : Value) (l1 : List α) (hs : a.eval s = v) (hown : d.Own e w ok base v l1) (A : Option Addr) (m c : Nat) (l2 : List α) (hx : a.eval x = .slice A m c)
  (hR : d.Rd w ok A m l2) (hok : ∀ k, ok k → v.ownBlock ≠ some k) (hbytes : (l1.length + m) * bytes ≤ 140737488355328) (hbase : base ≤ w.heap.size)
  (h : ∀ v' w', d.Own e w' ok base v' (l1 ++ l2) → w.grownBy w' v.ownBlock → (v'.ownBlock = v.ownBlock ∨ v'.ownBlock = some w.heap.size) → wpList P ops Q rest (a.put o.dst v') w') : wpList P ops Q (o :: rest) a w := by
 obtain ⟨news, hr, hc⟩ := hR.reps
 refine wpList_plain hgd fun _ hK => wp_append_kind w d s x t ho e z bytes ht hinfo hzs hs0 hb0 v l1 hs hown A m c l2 news hx hr hR.1 ?_ hc hok hbytes hbase fun v' w' h2 h3 h4 => hK _ _ (h v' w' h2 h3 h4)
 intro hA
 rcases Nat.eq_zero_or_pos m with h0 | h0
 ·exact h0
 ·obtain ⟨b, off, e1, _⟩ := hR.2 h0
  rw [hA] at e1
  cases e1
/-- append of one element that has just been laid in a block of its own. -/
theorem wpList_append_one {ops : Array Oper} {rest : List Oper} {o : Oper} {a : Act} {Q : Exit → Act → World → Prop} (w : World) (d : Kind α) (hgd : o.guard = none) (s x : Operand) (t : TypeId) (ho : o.op = .call { callee := .builtin .append, args := #[s, x], argTypes := #[t, t] })
  (e : TypeId) (z : Value) (bytes : Nat) (ht : P.underlying t = some (.slice e)) (hinfo : (P.info? e).map (fun i => (i.zero, i.size, i.bytes)) = some (some z, d.sz, bytes))
  (hzs : z.cells.size = d.sz) (hs0 : 0 < d.sz) (hb0 : 0 < bytes) (v : Value) (l1 : List α) (hs : a.eval s = v) (hown : d.Own e w ok base v l1) (y : α) (cs : List Value) (hx : a.eval x = .slice (some ⟨w.heap.size, 0, none⟩) 1 1)
  (hK : d.K w ok y cs) (hok : ∀ k, ok k → v.ownBlock ≠ some k) (hbytes : (l1.length + 1) * bytes ≤ 140737488355328) (hbase : base ≤ w.heap.size)
  (h : ∀ v' w', d.Own e w' ok base v' (l1 ++ [y]) → w.grownBy w' v.ownBlock → (v'.ownBlock = v.ownBlock ∨ ∃ b, v'.ownBlock = some b ∧ w.heap.size < b) → wpList P ops Q rest (a.put o.dst v') w') : wpList P ops Q (o :: rest) a (w.alloc (.cells cs.toArray e)) := by
 have hown1 : d.Own e (w.alloc (.cells cs.toArray e)) ok base v l1 := by
  have hb : Below w.heap.size w (w.alloc (.cells cs.toArray e)) := (Below.refl _ _).alloc (Nat.le_refl _) _
  exact hown.below hb
 have hK1 : d.K (w.alloc (.cells cs.toArray e)) ok y cs := d.below hK ((Below.refl _ _).alloc (Nat.le_refl _) _)
 refine wpList_plain hgd fun _ hK' => wp_append_kind (w.alloc (.cells cs.toArray e)) d s x t ho e z bytes ht hinfo hzs hs0 hb0 v l1 hs hown1 (some ⟨w.heap.size, 0, none⟩) 1 1 [y] cs hx (by simpa using (Kind.Reps.nil d _ ok).snoc hK1) rfl (fun h => by cases h) ?_ hok hbytes (by simp; omega) fun v' w' h2 h3 h4 => hK' _ _ (h v' w' h2 ?_ ?_)
 ·intro ad had _ j u hu
  injection had with had
  subst had
  rw [Addr.add_lit, blk_cell (blk_new w _)]
  simpa using hu
 ·exact (World.grownBy_alloc w _ _).trans h3
 ·rcases h4 with h4 | h4
  ·exact .inl h4
  ·exact .inr ⟨_, h4, by simp⟩
end
end Go.Proofs.YteadghhmoggjnaaB
end
section
/- Words for memory: one field of a row's element is stored; rows whose elements lie partly here, partly there. Plain lemmas, no program. -/
set_option linter.unusedVariables false
set_option linter.unusedSimpArgs false
namespace Go.Proofs.YteadghhmoggjnaaB
open Go.RowKit
namespace Kind
section
variable {α : Type} {d : Kind α} {e : TypeId} {w w' : World} {ok ok' : Nat → Prop} {g cap : Nat} {m : List α} {x : α} {cs : List Value}
/-- The cells of one element of a row, as the row's block has them. -/
theorem RowAt.at_cells {i : Nat} (h : d.RowAt e w ok g cap m) (hi : i < m.length) : ∃ cur cs, w.heap[g]? = some (.cells cur e (0, 0)) ∧ i * d.sz + d.sz ≤ cur.size ∧ d.K w ok m[i] cs ∧ ∀ j, j < d.sz → cur[i * d.sz + j]? = cs[j]? := by
 obtain ⟨cs, hk, hc⟩ := h.cells hi
 obtain ⟨cur, hb, hs, hl, -, -⟩ := h
 have h1 : (i + 1) * d.sz ≤ cap * d.sz := Nat.mul_le_mul_right _ (by omega)
 rw [Nat.add_mul, Nat.one_mul] at h1
 refine ⟨cur, cs, hb, by omega, hk, fun j hj => ?_⟩
 have hl := d.len hk
 have hj' : j < cs.length := by omega
 have h2 := hc j cs[j] (List.getElem?_eq_getElem hj')
 rw [blk_cell hb] at h2
 rw [h2, List.getElem?_eq_getElem hj']
/-- One field of one element is stored. -/
theorem RowAt.field {i j : Nat} {v : Value} {y : α} (h : d.RowAt e w ok g cap m) (hi : i < m.length) (hj : j < d.sz) (hy : ∀ cs, d.K w ok m[i] cs → d.K w ok y (cs.set j v)) (hg : ∀ k, ok k → k ≠ g) :
  d.RowAt e (w.setCell ⟨g, i * d.sz + j, none⟩ v) ok g cap (m.set i y) := by
 obtain ⟨cur, cs, hb, hsz, hk, hc⟩ := h.at_cells hi
 have hl := d.len hk
 have h2 := h.set hi (hy cs hk) hg
 have hb2 := setCells_blk g e (0, 0) (cs.set j v) (i * d.sz) w cur hb (by rw [List.length_set]; omega)
 refine h2.step ?_ (fun k hk hl => ?_)
 ·rw [hb2, blk_set hb (i * d.sz + j) v]
  congr 2
  apply Array.ext_getElem?
  intro k
  have hlt : (cur.toList.take (i * d.sz)).length = i * d.sz := by rw [List.length_take, Array.length_toList]; omega
  have hta : ∀ L : List Value, L.toArray[k]? = L[k]? := fun L => by simp
  rw [hta (cur.toList.take (i * d.sz) ++ cs.set j v ++ cur.toList.drop (i * d.sz + (cs.set j v).length)), Array.getElem?_setIfInBounds, List.append_assoc]
  rcases Nat.lt_or_ge k (i * d.sz) with h3 | h3
  ·rw [if_neg (by omega), List.getElem?_append_left (by omega), List.getElem?_take, if_pos h3]
   simp
  ·rw [List.getElem?_append_right (by omega), hlt]
   rcases Nat.lt_or_ge k (i * d.sz + d.sz) with h4 | h4
   ·rw [List.getElem?_append_left (by rw [List.length_set]; omega), List.getElem?_set]
    by_cases h5 : i * d.sz + j = k
    ·have h6 : j = k - i * d.sz := by omega
     rw [if_pos h5, if_pos h6, if_pos (by omega), if_pos (by omega)]
    ·rw [if_neg h5, if_neg (by omega)]
     have h6 := hc (k - i * d.sz) (by omega)
     rw [← h6]
     congr 1
     omega
   ·rw [if_neg (by omega), List.getElem?_append_right (by rw [List.length_set]; omega), List.getElem?_drop, List.length_set]
    rw [← Array.getElem?_toList]
    congr 1
    omega
 ·rw [setCells_other g _ _ w k (hg k hk)]
  exact Below.heap_setCell w _ _ k (hg k hk)
end
end Kind
end Go.Proofs.YteadghhmoggjnaaB
end
section
/- Boxes in memory, as the printed texts have them (S33) and as this seat's own words have them (boxK): from one to the other; slices.Clone of boxes and of numbers. -/
set_option linter.unusedVariables false
set_option linter.unusedSimpArgs false
namespace Go.Proofs.YteadghhmoggjnaaB
open Go.RowKit
open Go.Proofs.Yteadghhmoggjnaa.Q (S33 k33 z33 k33_open k33_mk k33_mkM)
open Go.Proofs.YteadghhmoggjnaaW.PrintWords (Kd ReadsRow)
set_option maxHeartbeats 800000
def S33cells (x : S33) (A : Option Addr) (c : Nat) : List Value := [.int .i64 x.f0, .int .i64 x.f1, .int .i64 x.f2, .int .i64 x.f3, .string x.f4, .string x.f5, .slice A x.f6.length c]
def boxK : Kind S33 where
 sz := 7
 K := fun w ok x cs => ∃ A c, cs = S33cells x A c ∧ x.f6.length ≤ c ∧ Kind.int.Rd w ok A x.f6.length x.f6
 len := by
  rintro w ok x cs ⟨A, c, rfl, _⟩
  rfl
 one := by
  rintro w ok x cs ⟨A, c, rfl, _⟩ u hu
  simp only [S33cells, List.mem_cons, List.not_mem_nil, or_false] at hu
  rcases hu with rfl | rfl | rfl | rfl | rfl | rfl | rfl <;> rfl
 weaken := by
  rintro w ok ok' x cs hok ⟨A, c, rfl, hl, hr⟩
  exact ⟨A, c, rfl, hl, hr.weaken hok⟩
 bound := by
  rintro w ok x cs ⟨A, c, rfl, hl, hr⟩
  exact ⟨A, c, rfl, hl, hr.bound⟩
 move := by
  rintro w w' ok x cs hm ⟨A, c, rfl, hl, hr⟩
  exact ⟨A, c, rfl, hl, hr.move hm⟩
theorem addr_flat {w : World} {a : Addr} {v : Value} (h : w.cell? a = some v) : a = ⟨a.block, a.off, none⟩ := by
 obtain ⟨b, o, s⟩ := a
 cases s with
 | none => rfl
 | some s => unfold World.cell? at h; split at h <;> simp at h
theorem rd_of_C {α : Type} {d : Kd α} {d' : Kind α} {w : World} {A : Option Addr} {n : Nat} {l : List α} (hsz : d.sz = d'.sz) (hpos : 0 < d.sz) (hK : ∀ x cs, d.K w x cs → d'.K w (fun _ => True) x cs) (h : d.C w A n l) : d'.Rd w (fun _ => True) A n l := by
 obtain ⟨hl, hm, hn⟩ := h
 refine ⟨hl, fun hp => ?_⟩
 obtain ⟨ad, rfl, hc⟩ := hn hp
 obtain ⟨x0, hx0⟩ : ∃ x, l[0]? = some x := ⟨_, List.getElem?_eq_getElem (by omega)⟩
 obtain ⟨c0, hs0, hr0, hcell0⟩ := hc 0 x0 hx0
 have h0 := hcell0 0 _ (List.getElem?_eq_getElem (by omega))
 rw [Nat.zero_mul, Nat.add_zero] at h0
 have ha : ad.add 0 = ad := by unfold Addr.add; rw [if_pos rfl]
 rw [ha] at h0
 have hf := addr_flat h0
 rw [hf] at h0
 refine ⟨ad.block, ad.off, congrArg some hf, trivial, cell_lt h0, fun i x hx => ?_⟩
 obtain ⟨c, hs, hr, hcell⟩ := hc i x hx
 refine ⟨c, hK x c hr, fun j u hu => ?_⟩
 have h1 := hcell j u hu
 rw [hf, Addr.add_lit, hsz] at h1
 rw [← h1, Nat.add_assoc]
theorem rd_ints {w : World} {A : Option Addr} {n : Nat} {l : List Int} (h : (Kd.int .i64).C w A n l) : Kind.int.Rd w (fun _ => True) A n l := rd_of_C (d' := Kind.int) rfl (by decide) (fun x cs h => h) h
theorem rd_boxes {w : World} {A : Option Addr} {n : Nat} {l : List S33} (h : k33.C w A n l) : boxK.Rd w (fun _ => True) A n l := rd_of_C (d' := boxK) rfl (by decide) (fun x cs h => by
 obtain ⟨A6, c6, rfl, l6, g6⟩ := k33_open h
 exact ⟨A6, c6, rfl, l6, rd_ints g6⟩) h
theorem C_of_rd {α : Type} {d : Kd α} {d' : Kind α} {w : World} {ok : Nat → Prop} {A : Option Addr} {n : Nat} {l : List α} (hsz : d.sz = d'.sz) (hK : ∀ x cs, d'.K w ok x cs → d.K w x cs) (hn : n ≤ 9223372036854775807) (h : d'.Rd w ok A n l) : d.C w A n l := by
 refine ⟨h.1, hn, fun hp => ?_⟩
 obtain ⟨b, off, rfl, -, -, hc⟩ := h.2 hp
 refine ⟨_, rfl, fun j x hx => ?_⟩
 obtain ⟨cs, hk, hcs⟩ := hc j x hx
 refine ⟨cs, by rw [d'.len hk, hsz], hK x cs hk, fun i u hu => ?_⟩
 rw [Addr.add_lit, hsz, ← hcs i u hu, Nat.add_assoc]
theorem C_ints {w : World} {ok : Nat → Prop} {A : Option Addr} {n : Nat} {l : List Int} (hn : n ≤ 9223372036854775807) (h : Kind.int.Rd w ok A n l) : (Kd.int .i64).C w A n l := C_of_rd (d := Kd.int .i64) (d' := Kind.int) rfl (fun x cs h => h) hn h
theorem R_ints {e : Nat} {w : World} {ok ok' : Nat → Prop} {base : Nat} {v : Value} {l : List Int} (h : Kind.int.Own e w ok base v l) (hok : ∀ k, v.ownBlock = some k → ok' k) : (Kd.int .i64).R e w base ok' v l := by
 obtain ⟨xs, ho, hr⟩ := h
 exact ⟨hok, xs, ho, hr.1, fun j p hj => hr.2 j p hj⟩
theorem info_int : (Try.prog.info? 3).map (fun i => (i.zero, i.size, i.bytes)) = some (some (.int .i64 0), 1, 8) := by kernel_rfl
theorem info_box : (Try.prog.info? 33).map (fun i => (i.zero, i.size, i.bytes)) = some (some (.agg #[.int .i64 0, .int .i64 0, .int .i64 0, .int .i64 0, .string ⟨#[]⟩, .string ⟨#[]⟩, .slice none 0 0]), 7, 88) := by kernel_rfl
theorem Clone_int (A : Option Addr) (n c : Nat) (l : List Int) (ok : Nat → Prop) (w : World) (hr : Kind.int.Rd w ok A n l) (hn : n ≤ 17592186044416) :
  Calls Try.prog 59 #[.slice A n c] w fun e w' => ∃ v, e = .returned v ∧ Kind.int.Own 3 w' (fun k => ok k ∧ k < w.heap.size) w.heap.size v l ∧ Below w.heap.size w w' := by
 have HR := hide hr
 clear hr
 cases A with
 | none =>
  have heq := fun W => Lib.run_eql_slice_nil (P := Try.prog) W 22 3 none n c 0 0 Try.underlying22
  go_enter Try.func59, Try.ntmps59
  go_wp2_with fail
  go_ret
  have hl : l = [] := by
   rcases Nat.eq_zero_or_pos n with h0 | h0
   ·exact List.eq_nil_of_length_eq_zero (by have := HR.out.1; omega)
   ·obtain ⟨b, off, e, _⟩ := HR.out.2 h0
    cases e
  subst hl
  exact ⟨_, rfl, Kind.Own.nil _ _ _ _ _, Below.refl _ _⟩
 | some ad =>
  have heq := fun W => Lib.run_eql_slice_nil (P := Try.prog) W 22 3 (some ad) n c 0 0 Try.underlying22
  have hw0 : Below w.heap.size w (w.alloc (.cells #[] 3)) := (Below.refl _ _).alloc (Nat.le_refl _) _
  have HRD := hide (HR.out.bound.below hw0)
  have HOK := hide (show ∀ k, (ok k ∧ k < w.heap.size) → (Value.slice (some ⟨w.heap.size, 0, none⟩) 0 0).ownBlock ≠ some k from fun k hk e => by simp [Value.ownBlock] at e; omega)
  clear hw0
  go_enter Try.func59, Try.ntmps59
  go_wp2_with (at_builtin; refine wpList_append_rd (ok := fun k => ok k ∧ k < w.heap.size) (base := w.heap.size) (w.alloc (.cells #[] 3)) Kind.int rfl _ _ 22 rfl 3 _ 8 Try.underlying22 info_int rfl (by decide) (by decide) _ [] rfl ⟨[], World.ownsRow_made w #[] 0 (Nat.le_refl _) (Nat.zero_le _) rfl, Kind.Reps.nil _ _ _⟩ (some ad) n c l rfl HRD.out HOK.out (by simp; omega) (by simp) ?_; intro v1 w1 hown1 hg1 hat1)
  go_ret
  refine ⟨v1, rfl, by simpa using hown1, ?_⟩
  exact ((Below.refl _ _).alloc (Nat.le_refl _) _).grown hg1 (by simp) (fun k hk => by have h2 : w.heap.size = k := Option.some.inj hk; omega)
theorem Clone_box (A : Option Addr) (n c : Nat) (l : List S33) (ok : Nat → Prop) (w : World) (hr : boxK.Rd w ok A n l) (hn : n ≤ 1000000000000) :
  Calls Try.prog 58 #[.slice A n c] w fun e w' => ∃ v, e = .returned v ∧ boxK.Own 33 w' (fun k => ok k ∧ k < w.heap.size) w.heap.size v l ∧ Below w.heap.size w w' := by
 have HR := hide hr
 clear hr
 cases A with
 | none =>
  have heq := fun W => Lib.run_eql_slice_nil (P := Try.prog) W 23 33 none n c 0 0 Try.underlying23
  go_enter Try.func58, Try.ntmps58
  go_wp2_with fail
  go_ret
  have hl : l = [] := by
   rcases Nat.eq_zero_or_pos n with h0 | h0
   ·exact List.eq_nil_of_length_eq_zero (by have := HR.out.1; omega)
   ·obtain ⟨b, off, e, _⟩ := HR.out.2 h0
    cases e
  subst hl
  exact ⟨_, rfl, Kind.Own.nil _ _ _ _ _, Below.refl _ _⟩
 | some ad =>
  have heq := fun W => Lib.run_eql_slice_nil (P := Try.prog) W 23 33 (some ad) n c 0 0 Try.underlying23
  have hw0 : Below w.heap.size w (w.alloc (.cells #[] 33)) := (Below.refl _ _).alloc (Nat.le_refl _) _
  have HRD := hide (HR.out.bound.below hw0)
  have HOK := hide (show ∀ k, (ok k ∧ k < w.heap.size) → (Value.slice (some ⟨w.heap.size, 0, none⟩) 0 0).ownBlock ≠ some k from fun k hk e => by simp [Value.ownBlock] at e; omega)
  clear hw0
  go_enter Try.func58, Try.ntmps58
  go_wp2_with (at_builtin; refine wpList_append_rd (ok := fun k => ok k ∧ k < w.heap.size) (base := w.heap.size) (w.alloc (.cells #[] 33)) boxK rfl _ _ 23 rfl 33 _ 88 Try.underlying23 info_box rfl (by decide) (by decide) _ [] rfl ⟨[], World.ownsRow_made w #[] 0 (Nat.le_refl _) (Nat.zero_le _) rfl, Kind.Reps.nil _ _ _⟩ (some ad) n c l rfl HRD.out HOK.out (by simp; omega) (by simp) ?_; intro v1 w1 hown1 hg1 hat1)
  go_ret
  refine ⟨v1, rfl, by simpa using hown1, ?_⟩
  exact ((Below.refl _ _).alloc (Nat.le_refl _) _).grown hg1 (by simp) (fun k hk => by have h2 : w.heap.size = k := Option.some.inj hk; omega)
end Go.Proofs.YteadghhmoggjnaaB
end
end
