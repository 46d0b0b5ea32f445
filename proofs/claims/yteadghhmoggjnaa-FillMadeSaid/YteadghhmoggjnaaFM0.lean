import Derived.WalkKit
import Derived.WalkSpells
import Derived.WalkLawsBesides
import Derived.Maps.AppendAt
import Derived.Deep.Draws
import Derived.Shelf.Abstract
import Derived.Deep.QuietTactic
import Derived.BigQuiet
set_option linter.unusedVariables false
set_option linter.unusedSimpArgs false
section
section
namespace Go.Proofs.YteadghhmoggjnaaB
open Go.RowKit
theorem hide {p : Prop} (h : p) : Hid p := h
theorem ret_bool {a b : Bool} (h : a = b) : Ending.returned (.bool a) = .returned (.bool b) := by rw [h]
theorem ret_int {k : IntKind} {a b : Int} (h : a = b) : Ending.returned (.int k a) = .returned (.int k b) := by rw [h]
theorem below_drewN {B : Nat} {a w : World} (h : Below B a w) (n : Nat) : Below B a (w.drewN n) := ⟨h.os, h.tape, h.output, h.size, h.block⟩
theorem below_then {B : Nat} {a b c : World} (h : Below B a b) (hB : B ≤ b.heap.size) (k : Below b.heap.size b c) : Below B a c := h.trans (k.mono hB)
theorem below_self {a b c : World} (h : Below a.heap.size a b) (k : Below b.heap.size b c) : Below a.heap.size a c := below_then h h.size k
theorem blk_lt {w : World} {g : Nat} {o : Obj} (h : w.heap[g]? = some o) : g < w.heap.size := (Array.getElem?_eq_some_iff.1 h).1
theorem blk_cell {w : World} {g i : Nat} {cs : Array Value} {t : TypeId} {fr : Nat × Nat} (h : w.heap[g]? = some (.cells cs t fr)) : w.cell? ⟨g, i, none⟩ = cs[i]? := cell_of_row w g i cs t fr h
theorem blk_frozen {w : World} {g i : Nat} {cs : Array Value} {t : TypeId} (h : w.heap[g]? = some (.cells cs t (0, 0))) : w.frozen? ⟨g, i, none⟩ = false := by simp [World.frozen?, h]
theorem blk_set {w : World} {g : Nat} {cs : Array Value} {t : TypeId} {fr : Nat × Nat} (h : w.heap[g]? = some (.cells cs t fr)) (i : Nat) (u : Value) : (w.setCell ⟨g, i, none⟩ u).heap[g]? = some (.cells (cs.setIfInBounds i u) t fr) := by
 simp [World.setCell, Array.getElem?_modify, h]
theorem blk_far {w : World} {g : Nat} {o : Obj} (h : w.heap[g]? = some o) {p : Addr} (hp : g ≠ p.block) (u : Value) : (w.setCell p u).heap[g]? = some o := (Below.heap_setCell w p u g hp).trans h
theorem blk_alloc {w : World} {g : Nat} {o : Obj} (h : w.heap[g]? = some o) (o' : Obj) : (w.alloc o').heap[g]? = some o := (Below.heap_alloc w o' g (blk_lt h)).trans h
theorem blk_new (w : World) (o : Obj) : (w.alloc o).heap[w.heap.size]? = some o := heap_alloc_new w o
theorem blk_below {w w' : World} {g : Nat} {o : Obj} (h : w.heap[g]? = some o) {B : Nat} (hb : Below B w w') (hg : g < B) : w'.heap[g]? = some o := (hb.block g hg).trans h
theorem blk_grown {w w' : World} {g : Nat} {o : Obj} {row : Option Nat} (h : w.heap[g]? = some o) (hk : w.grownBy w' row) (hg : some g ≠ row) : w'.heap[g]? = some o := (hk.block g (blk_lt h) hg).trans h
theorem cell_lt {w : World} {b o : Nat} {v : Value} (h : w.cell? ⟨b, o, none⟩ = some v) : b < w.heap.size := World.block_lt_of_cell? w ⟨b, o, none⟩ h
theorem cell_same {w w' : World} {b : Nat} (h : w'.heap[b]? = w.heap[b]?) (o : Nat) : w'.cell? ⟨b, o, none⟩ = w.cell? ⟨b, o, none⟩ := World.cell?_of_block (w := w) (a := ⟨b, o, none⟩) h
structure Kind (α : Type) where
 sz : Nat
 K : World → (Nat → Prop) → α → List Value → Prop
 len : ∀ {w : World} {ok : Nat → Prop} {x : α} {cs : List Value}, K w ok x cs → cs.length = sz
 one : ∀ {w : World} {ok : Nat → Prop} {x : α} {cs : List Value}, K w ok x cs → ∀ u ∈ cs, u.oneCell' = true
 weaken : ∀ {w : World} {ok ok' : Nat → Prop} {x : α} {cs : List Value}, (∀ k, ok k → ok' k) → K w ok x cs → K w ok' x cs
 bound : ∀ {w : World} {ok : Nat → Prop} {x : α} {cs : List Value}, K w ok x cs → K w (fun k => ok k ∧ k < w.heap.size) x cs
 move : ∀ {w w' : World} {ok : Nat → Prop} {x : α} {cs : List Value}, (∀ k, ok k → w'.heap[k]? = w.heap[k]?) → K w ok x cs → K w' ok x cs
namespace Kind
section
variable {α : Type} {d : Kind α} {w w' : World} {ok ok' : Nat → Prop} {x : α} {cs : List Value} {A : Option Addr} {n c : Nat} {l : List α}
theorem step (h : d.K w ok x cs) (hm : ∀ k, ok k → k < w.heap.size → w'.heap[k]? = w.heap[k]?) : d.K w' ok x cs :=
 d.weaken (fun _ hk => hk.1) (d.move (fun k hk => hm k hk.1 hk.2) (d.bound h))
theorem below (h : d.K w ok x cs) (hb : Below w.heap.size w w') : d.K w' ok x cs := step h fun k _ hk => hb.block k hk
def Rd (d : Kind α) (w : World) (ok : Nat → Prop) (A : Option Addr) (n : Nat) (l : List α) : Prop :=
 l.length = n ∧ (0 < n → ∃ b off, A = some ⟨b, off, none⟩ ∧ ok b ∧ b < w.heap.size ∧ ∀ i x, l[i]? = some x → ∃ cs, d.K w ok x cs ∧ ∀ j u, cs[j]? = some u → w.cell? ⟨b, off + i * d.sz + j, none⟩ = some u)
theorem Rd.nil (d : Kind α) (w : World) (ok : Nat → Prop) (A : Option Addr) : d.Rd w ok A 0 [] := ⟨rfl, fun h => absurd h (by omega)⟩
theorem Rd.weaken (h : d.Rd w ok A n l) (hok : ∀ k, ok k → ok' k) : d.Rd w ok' A n l :=
 ⟨h.1, fun hn => by
  obtain ⟨b, off, e, hb, hlt, hc⟩ := h.2 hn
  exact ⟨b, off, e, hok _ hb, hlt, fun i x hx => by
   obtain ⟨cs, hk, hcs⟩ := hc i x hx
   exact ⟨cs, d.weaken hok hk, hcs⟩⟩⟩
theorem Rd.bound (h : d.Rd w ok A n l) : d.Rd w (fun k => ok k ∧ k < w.heap.size) A n l :=
 ⟨h.1, fun hn => by
  obtain ⟨b, off, e, hb, hlt, hc⟩ := h.2 hn
  exact ⟨b, off, e, ⟨hb, hlt⟩, hlt, fun i x hx => by
   obtain ⟨cs, hk, hcs⟩ := hc i x hx
   exact ⟨cs, d.bound hk, hcs⟩⟩⟩
theorem Rd.move (h : d.Rd w ok A n l) (hm : ∀ k, ok k → w'.heap[k]? = w.heap[k]?) : d.Rd w' ok A n l :=
 ⟨h.1, fun hn => by
  obtain ⟨b, off, e, hb, hlt, hc⟩ := h.2 hn
  have hlt' : b < w'.heap.size := by
   have h1 : w'.heap[b]? = some w.heap[b] := by rw [hm b hb, Array.getElem?_eq_getElem hlt]
   exact blk_lt h1
  exact ⟨b, off, e, hb, hlt', fun i x hx => by
   obtain ⟨cs, hk, hcs⟩ := hc i x hx
   exact ⟨cs, d.move hm hk, fun j u hu => (cell_same (hm b hb) _).trans (hcs j u hu)⟩⟩⟩
theorem Rd.step (h : d.Rd w ok A n l) (hm : ∀ k, ok k → k < w.heap.size → w'.heap[k]? = w.heap[k]?) : d.Rd w' ok A n l :=
 (h.bound.move fun k hk => hm k hk.1 hk.2).weaken fun _ hk => hk.1
theorem Rd.below (h : d.Rd w ok A n l) (hb : Below w.heap.size w w') : d.Rd w' ok A n l := h.step fun k _ hk => hb.block k hk
theorem Rd.at_ (h : d.Rd w ok A n l) {i : Nat} (hi : i < l.length) : ∃ b off cs, A = some ⟨b, off, none⟩ ∧ b < w.heap.size ∧ d.K w ok l[i] cs ∧ ∀ j u, cs[j]? = some u → w.cell? ⟨b, off + i * d.sz + j, none⟩ = some u := by
 obtain ⟨b, off, e, _, hlt, hc⟩ := h.2 (by have := h.1; omega)
 obtain ⟨cs, hk, hcs⟩ := hc i _ (List.getElem?_eq_getElem hi)
 exact ⟨b, off, cs, e, hlt, hk, hcs⟩
theorem Rd.cut (h : d.Rd w ok A n l) {k m : Nat} (hk : k ≤ m) (hm : m ≤ n) (hc : n ≤ c) :
  d.Rd w ok (if c = k then A else A.map (·.add (k * d.sz))) (m - k) ((l.take m).drop k) := by
 refine ⟨by rw [List.length_drop, List.length_take]; have := h.1; omega, fun hn => ?_⟩
 obtain ⟨b, off, rfl, hb, hlt, hcell⟩ := h.2 (by omega)
 rw [if_neg (by omega)]
 refine ⟨b, off + k * d.sz, ?_, hb, hlt, fun i x hx => ?_⟩
 ·show some ((⟨b, off, none⟩ : Addr).add (k * d.sz)) = _
  rw [Addr.add_lit]
 ·rw [List.getElem?_drop, List.getElem?_take] at hx
  split at hx
  ·obtain ⟨cs, hK, hcs⟩ := hcell (k + i) x hx
   refine ⟨cs, hK, fun j u hu => ?_⟩
   have := hcs j u hu
   rw [Nat.add_mul] at this
   rw [← this]
   congr 2
   omega
  ·cases hx
end
def scalar {α : Type} (enc : α → Value) (h1 : ∀ x, (enc x).oneCell' = true) : Kind α where
 sz := 1
 K := fun _ _ x cs => cs = [enc x]
 len := fun h => by rw [h]; rfl
 one := fun h u hu => by
  rw [h] at hu
  rw [List.mem_singleton.1 hu]
  exact h1 _
 weaken := fun _ h => h
 bound := fun h => h
 move := fun _ h => h
def int : Kind Int := scalar (Value.int .i64) (fun _ => rfl)
def Reps {α : Type} (d : Kind α) (w : World) (ok : Nat → Prop) (l : List α) (cs : List Value) : Prop :=
 cs.length = l.length * d.sz ∧ ∀ i x, l[i]? = some x → d.K w ok x ((cs.drop (i * d.sz)).take d.sz)
section
variable {α : Type} {d : Kind α} {w w' : World} {ok ok' : Nat → Prop} {x : α} {c cs : List Value} {l : List α}
theorem Reps.nil (d : Kind α) (w : World) (ok : Nat → Prop) : d.Reps w ok [] [] := ⟨by simp, fun j p h => by simp at h⟩
theorem Reps.snoc (h : d.Reps w ok l cs) (hx : d.K w ok x c) : d.Reps w ok (l ++ [x]) (cs ++ c) := by
 have hc := d.len hx
 refine ⟨by rw [List.length_append, h.1, hc, List.length_append, List.length_singleton, Nat.add_mul, Nat.one_mul], fun j q hq => ?_⟩
 rcases Nat.lt_or_ge j l.length with hj | hj
 ·rw [List.getElem?_append_left hj] at hq
  have h1 : j * d.sz + d.sz ≤ cs.length := by rw [h.1, ← Nat.succ_mul]; exact Nat.mul_le_mul_right _ hj
  rw [List.drop_append_of_le_length (by omega), List.take_append_of_le_length (by rw [List.length_drop]; omega)]
  exact h.2 j q hq
 ·have hj' : j = l.length := by
   have := (List.getElem?_eq_some_iff.1 hq).1
   rw [List.length_append, List.length_singleton] at this
   omega
  subst hj'
  have hq' : x = q := by simpa using hq
  subst hq'
  rw [← h.1, List.drop_left, ← hc, List.take_length]
  exact hx
theorem Reps.imp (h : d.Reps w ok l cs) (hK : ∀ x c, d.K w ok x c → d.K w' ok' x c) : d.Reps w' ok' l cs := ⟨h.1, fun j p hj => hK _ _ (h.2 j p hj)⟩
theorem Reps.append {l2 : List α} {cs2 : List Value} (h : d.Reps w ok l cs) (h2 : d.Reps w ok l2 cs2) : d.Reps w ok (l ++ l2) (cs ++ cs2) := by
 refine ⟨by rw [List.length_append, h.1, h2.1, List.length_append, Nat.add_mul], fun j q hq => ?_⟩
 rcases Nat.lt_or_ge j l.length with hj | hj
 ·rw [List.getElem?_append_left hj] at hq
  have h1 : j * d.sz + d.sz ≤ cs.length := by rw [h.1, ← Nat.succ_mul]; exact Nat.mul_le_mul_right _ hj
  rw [List.drop_append_of_le_length (by omega), List.take_append_of_le_length (by rw [List.length_drop]; omega)]
  exact h.2 j q hq
 ·rw [List.getElem?_append_right hj] at hq
  have e : j * d.sz = cs.length + (j - l.length) * d.sz := by rw [h.1, ← Nat.add_mul]; congr 1; omega
  rw [e, ← List.drop_drop, List.drop_left]
  exact h2.2 _ q hq
theorem Reps.one (h : d.Reps w ok l cs) : ∀ u ∈ cs, u.oneCell' = true := by
 intro u hu
 obtain ⟨i, hi, rfl⟩ := List.mem_iff_getElem.1 hu
 have hlen := h.1
 rcases Nat.eq_zero_or_pos d.sz with h0 | h0
 ·rw [h0, Nat.mul_zero] at hlen; omega
 ·have hq : i / d.sz < l.length := by rw [Nat.div_lt_iff_lt_mul h0]; omega
  have hk := h.2 (i / d.sz) _ (List.getElem?_eq_getElem hq)
  refine d.one hk _ ?_
  have hmod := Nat.mod_lt i h0
  have hdm := Nat.div_add_mod' i d.sz
  refine List.mem_iff_getElem.2 ⟨i % d.sz, ?_, ?_⟩
  ·rw [List.length_take, List.length_drop]; omega
  ·rw [List.getElem_take, List.getElem_drop]
   congr 1
def Own (d : Kind α) (e : TypeId) (w : World) (ok : Nat → Prop) (base : Nat) (v : Value) (l : List α) : Prop :=
 ∃ xs, w.ownsRow base e d.sz v l.length xs ∧ d.Reps w ok l xs
variable {e : TypeId} {base : Nat} {v : Value}
theorem Own.nil (d : Kind α) (e : TypeId) (w : World) (ok : Nat → Prop) (base : Nat) : d.Own e w ok base (.slice none 0 0) [] := ⟨[], World.ownsRow_nil _ _ _ _, Reps.nil _ _ _⟩
theorem own_move {base : Nat} {e : TypeId} {size n : Nat} {v : Value} {xs : List Value} (h : w.ownsRow base e size v n xs) (hm : ∀ k, v.ownBlock = some k → w'.heap[k]? = w.heap[k]?) : w'.ownsRow base e size v n xs := by
 obtain ⟨h1, h2⟩ := h
 refine ⟨h1, ?_⟩
 rcases h2 with h2 | ⟨g, cap, cur, rfl, hg, hh, r⟩
 ·exact .inl h2
 ·exact .inr ⟨g, cap, cur, rfl, hg, (hm g (by simp [Value.ownBlock])).trans hh, r⟩
theorem Own.step (h : d.Own e w ok base v l) (hv : ∀ k, v.ownBlock = some k → w'.heap[k]? = w.heap[k]?) (hm : ∀ k, ok k → k < w.heap.size → w'.heap[k]? = w.heap[k]?) : d.Own e w' ok base v l := by
 obtain ⟨xs, ho, hr⟩ := h
 exact ⟨xs, own_move ho hv, hr.imp fun x c hk => d.step hk hm⟩
theorem Own.lt (h : d.Own e w ok base v l) : ∀ k, v.ownBlock = some k → base ≤ k ∧ k < w.heap.size := by
 obtain ⟨xs, ho, hr⟩ := h
 exact ho.lt
theorem Own.below (h : d.Own e w ok base v l) (hb : Below w.heap.size w w') : d.Own e w' ok base v l :=
 h.step (fun k hk => hb.block k (h.lt k hk).2) (fun k _ hk => hb.block k hk)
theorem Own.weaken (h : d.Own e w ok base v l) (hok : ∀ k, ok k → ok' k) : d.Own e w ok' base v l := by
 obtain ⟨xs, ho, hr⟩ := h
 exact ⟨xs, ho, hr.imp fun x c hk => d.weaken hok hk⟩
theorem Own.lower {base' : Nat} (h : d.Own e w ok base v l) (hb : base' ≤ base) : d.Own e w ok base' v l := by
 obtain ⟨xs, ⟨h1, h2⟩, hr⟩ := h
 refine ⟨xs, ⟨h1, ?_⟩, hr⟩
 rcases h2 with h2 | ⟨g, cap, cur, rfl, hg, r⟩
 ·exact .inl h2
 ·exact .inr ⟨g, cap, cur, rfl, Nat.le_trans hb hg, r⟩
theorem Own.form (h : d.Own e w ok base v l) : ∃ A c, v = .slice A l.length c ∧ l.length ≤ c ∧ c ≤ maxLen ∧ (0 < l.length → ∃ g, A = some ⟨g, 0, none⟩) ∧ (∀ a, A = some a → a = ⟨a.block, 0, none⟩) ∧ d.Rd w (fun k => ok k ∨ v.ownBlock = some k) A l.length l := by
 obtain ⟨xs, ho, hr⟩ := h
 rcases ho.2 with ⟨rfl, h0⟩ | ⟨g, cap, cur, rfl, hg, hh, hn, hm, hs, ht⟩
 ·rw [h0]
  have : l = [] := List.eq_nil_of_length_eq_zero h0
  subst this
  exact ⟨none, 0, rfl, Nat.le_refl _, Nat.zero_le _, fun h => absurd h (by omega), (fun a h => by cases h), Rd.nil _ _ _ _⟩
 ·refine ⟨some ⟨g, 0, none⟩, cap, rfl, hn, hm, fun _ => ⟨g, rfl⟩, (fun a h => by injection h with h; subst h; rfl), rfl, fun hp => ⟨g, 0, rfl, .inr (by simp [Value.ownBlock]), blk_lt hh, fun i x hx => ?_⟩⟩
  refine ⟨_, d.weaken (fun k hk => .inl hk) (hr.2 i x hx), fun j u hu => ?_⟩
  rw [blk_cell hh]
  rw [List.getElem?_take] at hu
  split at hu
  ·rename_i hj
   rw [List.getElem?_drop, ← ht, List.getElem?_take] at hu
   split at hu
   ·rw [← hu]; simp
   ·cases hu
  ·cases hu
end
end Kind
end Go.Proofs.YteadghhmoggjnaaB
end
section
namespace Go.Proofs.YteadghhmoggjnaaB
open Go.RowKit
theorem setCells_blk (g : Nat) (e : TypeId) (fr : Nat × Nat) : ∀ (vs : List Value) (o : Nat) (w : World) (cur : Array Value), w.heap[g]? = some (.cells cur e fr) → o + vs.length ≤ cur.size →
  (w.setCells g o vs).heap[g]? = some (.cells (cur.toList.take o ++ vs ++ cur.toList.drop (o + vs.length)).toArray e fr)
 | [], o, w, cur, hg, hl => by
  simp only [World.setCells, List.append_nil, List.length_nil, Nat.add_zero, List.take_append_drop, Array.toArray_toList]
  exact hg
 | v :: r, o, w, cur, hg, hl => by
  simp only [World.setCells]
  simp only [List.length_cons] at hl
  rw [setCells_blk g e fr r (o + 1) _ _ (blk_set hg o v) (by simp; omega)]
  congr 2
  apply Array.ext'
  simp only [Array.toList_setIfInBounds]
  have ho : o < cur.toList.length := by simp; omega
  rw [List.take_set, List.take_succ_eq_append_getElem ho]
  have hlo : (cur.toList.take o).length = o := by rw [List.length_take]; omega
  have e1 : (cur.toList.take o ++ [cur.toList[o]]).set o v = cur.toList.take o ++ [v] := by
   rw [List.set_append_right _ _ (by omega), hlo, Nat.sub_self]
   rfl
  rw [e1, List.drop_set_of_lt (by omega)]
  simp [Nat.add_assoc, Nat.add_comm 1]
theorem setCells_other (g : Nat) : ∀ (vs : List Value) (o : Nat) (w : World) (k : Nat), k ≠ g → (w.setCells g o vs).heap[k]? = w.heap[k]?
 | [], _, _, _, _ => rfl
 | v :: r, o, w, k, hk => by
  simp only [World.setCells]
  rw [setCells_other g r (o + 1) _ k hk]
  exact Below.heap_setCell w ⟨g, o, none⟩ v k hk
namespace Kind
def RowAt {α : Type} (d : Kind α) (e : TypeId) (w : World) (ok : Nat → Prop) (g cap : Nat) (m : List α) : Prop :=
 ∃ cur, w.heap[g]? = some (.cells cur e (0, 0)) ∧ cur.size = cap * d.sz ∧ m.length ≤ cap ∧ cap ≤ maxLen ∧ d.Reps w ok m (cur.toList.take (m.length * d.sz))
section
variable {α : Type} {d : Kind α} {e : TypeId} {w w' : World} {ok ok' : Nat → Prop} {g cap : Nat} {m : List α} {x : α} {cs : List Value}
theorem Own.rowAt {base n c : Nat} {A : Option Addr} (h : d.Own e w ok base (.slice A n c) m) (hn : 0 < m.length) : ∃ g, A = some ⟨g, 0, none⟩ ∧ n = m.length ∧ base ≤ g ∧ d.RowAt e w ok g c m := by
 obtain ⟨xs, ho, hr⟩ := h
 rcases ho.2 with ⟨_, h0⟩ | ⟨g, cap, cur, hv, hg, hh, hn, hm, hs, ht⟩
 ·omega
 ·injection hv with h1 h2 h3
  subst h1; subst h2; subst h3
  exact ⟨g, rfl, rfl, hg, cur, hh, hs, hn, hm, by rw [ht]; exact hr⟩
theorem RowAt.own {base : Nat} (h : d.RowAt e w ok g cap m) (hb : base ≤ g) : d.Own e w ok base (.slice (some ⟨g, 0, none⟩) m.length cap) m := by
 obtain ⟨cur, hh, hs, hl, hm, hr⟩ := h
 exact ⟨_, ⟨hr.1, .inr ⟨g, cap, cur, rfl, hb, hh, hl, hm, hs, rfl⟩⟩, hr⟩
theorem RowAt.lt (h : d.RowAt e w ok g cap m) : g < w.heap.size := by
 obtain ⟨cur, hh, _⟩ := h
 exact blk_lt hh
theorem RowAt.cells {i : Nat} (h : d.RowAt e w ok g cap m) (hi : i < m.length) : ∃ cs, d.K w ok m[i] cs ∧ ∀ j u, cs[j]? = some u → w.cell? ⟨g, i * d.sz + j, none⟩ = some u := by
 obtain ⟨cur, hh, hs, hl, hm, hr⟩ := h
 have hk := hr.2 i _ (List.getElem?_eq_getElem hi)
 refine ⟨_, hk, fun j u hu => ?_⟩
 rw [blk_cell hh]
 rw [List.getElem?_take] at hu
 split at hu
 ·rw [List.getElem?_drop, List.getElem?_take] at hu
  split at hu
  ·rw [← hu]; simp
  ·cases hu
 ·cases hu
theorem RowAt.cells' {i : Nat} (h : d.RowAt e w ok g cap m) (hx : m[i]? = some x) : ∃ cs, d.K w ok x cs ∧ ∀ j u, cs[j]? = some u → w.cell? ⟨g, i * d.sz + j, none⟩ = some u := by
 obtain ⟨hi, rfl⟩ := List.getElem?_eq_some_iff.1 hx
 exact h.cells hi
theorem RowAt.frozen (h : d.RowAt e w ok g cap m) (j : Nat) : w.frozen? ⟨g, j, none⟩ = false := by
 obtain ⟨cur, hh, _⟩ := h
 exact blk_frozen hh
theorem RowAt.step (h : d.RowAt e w ok g cap m) (hg : w'.heap[g]? = w.heap[g]?) (hm : ∀ k, ok k → k < w.heap.size → w'.heap[k]? = w.heap[k]?) : d.RowAt e w' ok g cap m := by
 obtain ⟨cur, hh, hs, hl, hc, hr⟩ := h
 exact ⟨cur, hg.trans hh, hs, hl, hc, hr.imp fun x c hk => d.step hk hm⟩
theorem RowAt.below (h : d.RowAt e w ok g cap m) (hb : Below w.heap.size w w') : d.RowAt e w' ok g cap m := h.step (hb.block g h.lt) (fun k _ hk => hb.block k hk)
theorem RowAt.set {i : Nat} (h : d.RowAt e w ok g cap m) (hi : i < m.length) (hx : d.K w ok x cs) (hg : ∀ k, ok k → k ≠ g) : d.RowAt e (w.setCells g (i * d.sz) cs) ok g cap (m.set i x) := by
 obtain ⟨cur, hh, hs, hl, hm, hr⟩ := h
 have hcs := d.len hx
 have hi' : i * d.sz + d.sz ≤ m.length * d.sz := by rw [← Nat.succ_mul]; exact Nat.mul_le_mul_right _ hi
 have hc : m.length * d.sz ≤ cur.size := by rw [hs]; exact Nat.mul_le_mul_right _ hl
 have hb := setCells_blk g e (0, 0) cs (i * d.sz) w cur hh (by omega)
 have hmv : ∀ k, ok k → k < w.heap.size → (w.setCells g (i * d.sz) cs).heap[k]? = w.heap[k]? := fun k hk _ => setCells_other g cs _ w k (hg k hk)
 refine ⟨_, hb, ?_, by simpa using hl, hm, ?_⟩
 ·simp only [List.size_toArray, List.length_append, List.length_take, List.length_drop, Array.length_toList]
  omega
 ·rw [List.length_set]
  have hlen : (cur.toList.take (i * d.sz) ++ cs ++ cur.toList.drop (i * d.sz + cs.length)).length = cur.size := by
   simp only [List.length_append, List.length_take, List.length_drop, Array.length_toList]
   omega
  refine ⟨by rw [List.length_set, List.length_take]; simp only [hlen]; omega, fun j y hy => ?_⟩
  have hj : j < m.length := by
   have := (List.getElem?_eq_some_iff.1 hy).1
   simpa using this
  have hj' : j * d.sz + d.sz ≤ m.length * d.sz := by rw [← Nat.succ_mul]; exact Nat.mul_le_mul_right _ hj
  rw [List.drop_take, List.take_take, Nat.min_eq_left (by omega)]
  by_cases hij : j = i
  ·subst hij
   have hxy : x = y := by
    rw [List.getElem?_set_self hi] at hy
    injection hy
   subst hxy
   have e1 : (cur.toList.take (j * d.sz) ++ cs ++ cur.toList.drop (j * d.sz + cs.length)).drop (j * d.sz) = cs ++ cur.toList.drop (j * d.sz + cs.length) := by
    have hlt : (cur.toList.take (j * d.sz)).length = j * d.sz := by rw [List.length_take, Array.length_toList]; omega
    rw [List.append_assoc]
    conv => lhs; arg 1; rw [← hlt]
    rw [List.drop_left]
   have e3 : (cs ++ cur.toList.drop (j * d.sz + cs.length)).take d.sz = cs := by
    conv => lhs; arg 1; rw [← hcs]
    exact List.take_left
   rw [e1, e3]
   exact d.step hx hmv
  ·rw [List.getElem?_set_ne (fun e => hij e.symm)] at hy
   have h1 := hr.2 j y hy
   rw [List.drop_take, List.take_take, Nat.min_eq_left (by omega)] at h1
   have e2 : ((cur.toList.take (i * d.sz) ++ cs ++ cur.toList.drop (i * d.sz + cs.length)).drop (j * d.sz)).take d.sz = (cur.toList.drop (j * d.sz)).take d.sz := by
    apply List.ext_getElem?
    intro q
    rw [List.getElem?_take, List.getElem?_take]
    split
    ·rename_i hq
     rw [List.getElem?_drop, List.getElem?_drop]
     rcases Nat.lt_or_ge j i with h2 | h2
     ·have : j * d.sz + d.sz ≤ i * d.sz := by rw [← Nat.succ_mul]; exact Nat.mul_le_mul_right _ h2
      rw [List.append_assoc, List.getElem?_append_left (by rw [List.length_take, Array.length_toList]; omega), List.getElem?_take, if_pos (by omega)]
     ·have : i * d.sz + d.sz ≤ j * d.sz := by rw [← Nat.succ_mul]; exact Nat.mul_le_mul_right _ (by omega)
      have hla : (cur.toList.take (i * d.sz) ++ cs).length = i * d.sz + d.sz := by
       rw [List.length_append, List.length_take, show cur.toList.length = cur.size from Array.length_toList]; omega
      rw [List.getElem?_append_right (by omega), List.getElem?_drop]
      congr 1
      omega
    ·rfl
   rw [e2]
   exact d.step h1 hmv
end
end Kind
end Go.Proofs.YteadghhmoggjnaaB
end
end
