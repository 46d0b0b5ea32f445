import Derived.Test.YteadghhmoggjnaaFM10
set_option linter.unusedVariables false
set_option linter.unusedSimpArgs false
section
section
namespace Go.Proofs.YteadghhmoggjnaaB
open Go.RowKit Go.Shelf
open Yteadghhmoggjnaa.Q (S33 k33 z33 k33_open k33_mk k33_mkM k33_openF)
open YteadghhmoggjnaaW.PrintWords (Kd ReadsRow)
attribute [local go_sem] Oper.semAt_some
set_option maxHeartbeats 2000000
set_option maxRecDepth 1000000
theorem far11 {W : World} {B E E1 b9 o9 : Nat} {v0 v1 v2 v3 v4 v5 v6 v7 v8 v9 va : Value} (h : W.cell? ⟨B, 0, none⟩ = some v0 ∧ W.cell? ⟨E, 0, none⟩ = some v1 ∧ W.cell? ⟨E1, 0, none⟩ = some v2 ∧ W.cell? ⟨B + 1 + 1, 0, none⟩ = some v3 ∧ W.cell? ⟨B + 1 + 1, 1, none⟩ = some v4 ∧ W.cell? ⟨B + 1 + 1, 2, none⟩ = some v5 ∧ W.cell? ⟨B + 1 + 1, 3, none⟩ = some v6 ∧ W.cell? ⟨B + 1 + 1, 4, none⟩ = some v7 ∧ W.cell? ⟨B + 1 + 1, 5, none⟩ = some v8 ∧ W.cell? ⟨B + 1 + 1, 6, none⟩ = some v9 ∧ W.cell? ⟨b9, o9, none⟩ = some va) (p : Nat) (u : Value) (h1 : p ≠ B) (h2 : p ≠ E) (h3 : p ≠ E1) (h4 : p ≠ B + 1 + 1) (h5 : p ≠ b9) :
  (W.setCell ⟨p, 0, none⟩ u).cell? ⟨B, 0, none⟩ = some v0 ∧ (W.setCell ⟨p, 0, none⟩ u).cell? ⟨E, 0, none⟩ = some v1 ∧ (W.setCell ⟨p, 0, none⟩ u).cell? ⟨E1, 0, none⟩ = some v2 ∧ (W.setCell ⟨p, 0, none⟩ u).cell? ⟨B + 1 + 1, 0, none⟩ = some v3 ∧ (W.setCell ⟨p, 0, none⟩ u).cell? ⟨B + 1 + 1, 1, none⟩ = some v4 ∧ (W.setCell ⟨p, 0, none⟩ u).cell? ⟨B + 1 + 1, 2, none⟩ = some v5 ∧ (W.setCell ⟨p, 0, none⟩ u).cell? ⟨B + 1 + 1, 3, none⟩ = some v6 ∧ (W.setCell ⟨p, 0, none⟩ u).cell? ⟨B + 1 + 1, 4, none⟩ = some v7 ∧ (W.setCell ⟨p, 0, none⟩ u).cell? ⟨B + 1 + 1, 5, none⟩ = some v8 ∧ (W.setCell ⟨p, 0, none⟩ u).cell? ⟨B + 1 + 1, 6, none⟩ = some v9 ∧ (W.setCell ⟨p, 0, none⟩ u).cell? ⟨b9, o9, none⟩ = some va := ⟨(World.cell?_setCell_far _ ⟨p, 0, none⟩ ⟨B, 0, none⟩ _ h1).trans h.1, (World.cell?_setCell_far _ ⟨p, 0, none⟩ ⟨E, 0, none⟩ _ h2).trans h.2.1, (World.cell?_setCell_far _ ⟨p, 0, none⟩ ⟨E1, 0, none⟩ _ h3).trans h.2.2.1, (World.cell?_setCell_far _ ⟨p, 0, none⟩ ⟨B + 1 + 1, 0, none⟩ _ h4).trans h.2.2.2.1, (World.cell?_setCell_far _ ⟨p, 0, none⟩ ⟨B + 1 + 1, 1, none⟩ _ h4).trans h.2.2.2.2.1, (World.cell?_setCell_far _ ⟨p, 0, none⟩ ⟨B + 1 + 1, 2, none⟩ _ h4).trans h.2.2.2.2.2.1, (World.cell?_setCell_far _ ⟨p, 0, none⟩ ⟨B + 1 + 1, 3, none⟩ _ h4).trans h.2.2.2.2.2.2.1, (World.cell?_setCell_far _ ⟨p, 0, none⟩ ⟨B + 1 + 1, 4, none⟩ _ h4).trans h.2.2.2.2.2.2.2.1, (World.cell?_setCell_far _ ⟨p, 0, none⟩ ⟨B + 1 + 1, 5, none⟩ _ h4).trans h.2.2.2.2.2.2.2.2.1, (World.cell?_setCell_far _ ⟨p, 0, none⟩ ⟨B + 1 + 1, 6, none⟩ _ h4).trans h.2.2.2.2.2.2.2.2.2.1, (World.cell?_setCell_far _ ⟨p, 0, none⟩ ⟨b9, o9, none⟩ _ h5).trans h.2.2.2.2.2.2.2.2.2.2⟩
theorem slice_mid (W : World) (A : Option Addr) (n c k m : Nat) (h1 : k ≤ m) (h2 : m ≤ c) : (Instr.slice 23 (.slice A n c) (some (.int .i64 (k : Int))) (some (.int .i64 (m : Int))) none).run Try.prog W = .ok (.slice (cutA A c k) (m - k) (c - k)) W := by
 rw [run_slice_lh W 23 A n c Try.underlying23 .i64 .i64 (k : Int) (m : Int) (by omega) (by omega) (by omega), elem_boxes, sizeOf_box]
 rfl
structure TkF (w : World) (B : Nat) (w1 : World) (v3 : Value) (len : Int) (h : S33) (A2 : Option Addr) (c2 : Nat) : Prop where
 bel : Below w.heap.size w w1
 b3 : w1.heap[B]? = some (.cells #[v3] 23 (0, 0))
 b4 : w1.heap[B + 1]? = some (.cells #[.int .i64 len] 3 (0, 0))
 b5 : w1.heap[B + 1 + 1]? = some (.cells #[.int .i64 h.f0, .int .i64 h.f1, .int .i64 h.f2, .int .i64 h.f3, .string h.f4, .string h.f5, .slice A2 h.f6.length c2] 33 (0, 0))
 b6 : w1.heap[B + 1 + 1 + 1]? = some (.cells #[.slice none 0 0] 23 (0, 0))
 b7 : w1.heap[B + 1 + 1 + 1 + 1]? = some (.cells #[.slice none 0 0] 23 (0, 0))
 b8 : w1.heap[B + 1 + 1 + 1 + 1 + 1]? = some (.cells #[.bool false] 4 (0, 0))
section
variable {w w1 w2 : World} {B : Nat} {v3 : Value} {len : Int} {h : S33} {A2 : Option Addr} {c2 : Nat}
theorem TkF.below (t : TkF w B w1 v3 len h A2 c2) (hb : Below w1.heap.size w1 w2) : TkF w B w2 v3 len h A2 c2 :=
 ⟨below_self t.bel hb, blk_below t.b3 hb (blk_lt t.b3), blk_below t.b4 hb (blk_lt t.b4), blk_below t.b5 hb (blk_lt t.b5), blk_below t.b6 hb (blk_lt t.b6), blk_below t.b7 hb (blk_lt t.b7), blk_below t.b8 hb (blk_lt t.b8)⟩
theorem TkF.far (t : TkF w B w1 v3 len h A2 c2) {E : Nat} (hw : w.heap.size ≤ E) (hE : B + 6 ≤ E) (u : Value) : TkF w B (w1.setCell ⟨E, 0, none⟩ u) v3 len h A2 c2 :=
  ⟨t.bel.setCell (p := ⟨E, 0, none⟩) hw u, blk_far t.b3 (p := ⟨E, 0, none⟩) (by show B ≠ E; omega) u, blk_far t.b4 (p := ⟨E, 0, none⟩) (by show B + 1 ≠ E; omega) u, blk_far t.b5 (p := ⟨E, 0, none⟩) (by show B + 1 + 1 ≠ E; omega) u,
   blk_far t.b6 (p := ⟨E, 0, none⟩) (by show B + 1 + 1 + 1 ≠ E; omega) u, blk_far t.b7 (p := ⟨E, 0, none⟩) (by show B + 1 + 1 + 1 + 1 ≠ E; omega) u, blk_far t.b8 (p := ⟨E, 0, none⟩) (by show B + 1 + 1 + 1 + 1 + 1 ≠ E; omega) u⟩
end
theorem TkF.set3 {w w1 : World} {B : Nat} {v3 : Value} {len : Int} {h : S33} {A2 : Option Addr} {c2 : Nat} (t : TkF w B w1 v3 len h A2 c2) (hB : w.heap.size ≤ B) (v : Value) : TkF w B (w1.setCell ⟨B, 0, none⟩ v) v len h A2 c2 :=
  ⟨t.bel.setCell (p := ⟨B, 0, none⟩) hB v, blk_set t.b3 0 v, blk_far t.b4 (p := ⟨B, 0, none⟩) (by show B + 1 ≠ B; omega) v, blk_far t.b5 (p := ⟨B, 0, none⟩) (by show B + 1 + 1 ≠ B; omega) v,
   blk_far t.b6 (p := ⟨B, 0, none⟩) (by show B + 1 + 1 + 1 ≠ B; omega) v, blk_far t.b7 (p := ⟨B, 0, none⟩) (by show B + 1 + 1 + 1 + 1 ≠ B; omega) v, blk_far t.b8 (p := ⟨B, 0, none⟩) (by show B + 1 + 1 + 1 + 1 + 1 ≠ B; omega) v⟩
def takeW (w : World) (v3 : Value) (len : Int) (h : S33) (A2 : Option Addr) (c2 : Nat) : World :=
 (((((w.alloc (.cells #[v3] 23)).alloc (.cells #[.int .i64 len] 3)).alloc (.cells #[.int .i64 h.f0, .int .i64 h.f1, .int .i64 h.f2, .int .i64 h.f3, .string h.f4, .string h.f5, .slice A2 h.f6.length c2] 33)).alloc (.cells #[.slice none 0 0] 23)).alloc (.cells #[.slice none 0 0] 23)).alloc (.cells #[.bool false] 4)
theorem TkF.new (w : World) (v3 : Value) (len : Int) (h : S33) (A2 : Option Addr) (c2 : Nat) : TkF w w.heap.size (takeW w v3 len h A2 c2) v3 len h A2 c2 := by
 unfold takeW
 have b := fun (o0 o1 o2 o3 o4 o5 : Obj) => (below_a (w := w) o0)
 refine ⟨below_self (below_self (below_self (below_self (below_self (below_a _) (below_a _)) (below_a _)) (below_a _)) (below_a _)) (below_a _), ?_, ?_, ?_, ?_, ?_, ?_⟩
 ·exact blk_alloc (blk_alloc (blk_alloc (blk_alloc (blk_alloc (blk_new w _) _) _) _) _) _
 ·have := blk_new (w.alloc (.cells #[v3] 23)) (.cells #[.int .i64 len] 3)
  rw [World.size_alloc] at this
  exact blk_alloc (blk_alloc (blk_alloc (blk_alloc this _) _) _) _
 ·have := blk_new ((w.alloc (.cells #[v3] 23)).alloc (.cells #[.int .i64 len] 3)) (.cells #[.int .i64 h.f0, .int .i64 h.f1, .int .i64 h.f2, .int .i64 h.f3, .string h.f4, .string h.f5, .slice A2 h.f6.length c2] 33)
  simp only [World.size_alloc] at this
  exact blk_alloc (blk_alloc (blk_alloc this _) _) _
 ·have := blk_new (((w.alloc (.cells #[v3] 23)).alloc (.cells #[.int .i64 len] 3)).alloc (.cells #[.int .i64 h.f0, .int .i64 h.f1, .int .i64 h.f2, .int .i64 h.f3, .string h.f4, .string h.f5, .slice A2 h.f6.length c2] 33)) (.cells #[.slice none 0 0] 23)
  simp only [World.size_alloc] at this
  exact blk_alloc (blk_alloc this _) _
 ·have := blk_new ((((w.alloc (.cells #[v3] 23)).alloc (.cells #[.int .i64 len] 3)).alloc (.cells #[.int .i64 h.f0, .int .i64 h.f1, .int .i64 h.f2, .int .i64 h.f3, .string h.f4, .string h.f5, .slice A2 h.f6.length c2] 33)).alloc (.cells #[.slice none 0 0] 23)) (.cells #[.slice none 0 0] 23)
  simp only [World.size_alloc] at this
  exact blk_alloc this _
 ·have := blk_new (((((w.alloc (.cells #[v3] 23)).alloc (.cells #[.int .i64 len] 3)).alloc (.cells #[.int .i64 h.f0, .int .i64 h.f1, .int .i64 h.f2, .int .i64 h.f3, .string h.f4, .string h.f5, .slice A2 h.f6.length c2] 33)).alloc (.cells #[.slice none 0 0] 23)).alloc (.cells #[.slice none 0 0] 23)) (.cells #[.bool false] 4)
  simp only [World.size_alloc] at this
  exact this
theorem cells_of_cell {w : World} {a : Addr} {v : Value} (h : w.cell? a = some v) : ∃ o, w.heap[a.block]? = some o ∧ o.isCells = true := by
 unfold World.cell? at h
 split at h
 ·rename_i he
  exact ⟨_, he, rfl⟩
 ·cases h
def OkC (w : World) (ok : Nat → Prop) (k : Nat) : Prop := ok k ∧ ∃ o, w.heap[k]? = some o ∧ o.isCells = true
theorem int_rd_cells {w : World} {ok : Nat → Prop} {A : Option Addr} {n : Nat} {l : List Int} (h : Kind.int.Rd w ok A n l) : Kind.int.Rd w (OkC w ok) A n l := by
 refine ⟨h.1, fun hp => ?_⟩
 obtain ⟨b, off, e, hb, hlt, hc⟩ := h.2 hp
 obtain ⟨x0, hx0⟩ : ∃ x, l[0]? = some x := ⟨_, List.getElem?_eq_getElem (by rw [h.1]; exact hp)⟩
 obtain ⟨cs, hk, hcs⟩ := hc 0 x0 hx0
 have hk' : cs = [Value.int .i64 x0] := hk
 subst hk'
 exact ⟨b, off, e, ⟨hb, cells_of_cell (hcs 0 _ rfl)⟩, hlt, hc⟩
theorem box_rd_cells {w : World} {ok : Nat → Prop} {A : Option Addr} {n : Nat} {l : List S33} (h : boxK.Rd w ok A n l) : boxK.Rd w (OkC w ok) A n l := by
 refine ⟨h.1, fun hp => ?_⟩
 obtain ⟨b, off, e, hb, hlt, hc⟩ := h.2 hp
 obtain ⟨x0, hx0⟩ : ∃ x, l[0]? = some x := ⟨_, List.getElem?_eq_getElem (by rw [h.1]; exact hp)⟩
 obtain ⟨cs, hk, hcs⟩ := hc 0 x0 hx0
 obtain ⟨A6, c6, rfl, -, -⟩ := hk
 refine ⟨b, off, e, ⟨hb, cells_of_cell (hcs 0 _ rfl)⟩, hlt, fun i x hx => ?_⟩
 obtain ⟨cs, ⟨A6, c6, rfl, h6, hr6⟩, hcs⟩ := hc i x hx
 exact ⟨_, ⟨A6, c6, rfl, h6, int_rd_cells hr6⟩, hcs⟩
theorem SlRd.grownN {w w' : World} {ok : Nat → Prop} {v : Value} {l : List S33} (h : SlRd w ok v l) {row : Option Nat} (hg : w.grownBy w' row) (hr : ∀ r, row = some r → ∃ o : Obj, w.heap[r]? = some o ∧ o.isCells = false) : SlRd w' ok v l := by
 obtain ⟨A, c, e, hc, hrd⟩ := h
 refine ⟨A, c, e, hc, ((box_rd_cells hrd).step (fun k hk hlt => hg.block k hlt (fun e => ?_))).weaken (fun k hk => hk.1)⟩
 obtain ⟨o, ho, hn⟩ := hr k e.symm
 obtain ⟨-, o', ho', hy⟩ := hk
 rw [ho] at ho'
 cases ho'
 rw [hn] at hy
 cases hy
def TkE (w : World) (B : Nat) (ok : Nat → Prop) (r : List S33 × List S33 × Bool) (W : World) : Prop :=
 ∃ v1 v2, Below w.heap.size w W ∧ W.heap[B + 1 + 1 + 1]? = some (.cells #[v1] 23 (0, 0)) ∧ W.heap[B + 1 + 1 + 1 + 1]? = some (.cells #[v2] 23 (0, 0)) ∧ W.heap[B + 1 + 1 + 1 + 1 + 1]? = some (.cells #[.bool r.2.2] 4 (0, 0)) ∧
  SlRd W (fun k => (ok k ∧ k < w.heap.size) ∨ B + 6 ≤ k) v1 r.1 ∧ SlRd W (fun k => (ok k ∧ k < w.heap.size) ∨ B + 6 ≤ k) v2 r.2.1
theorem TkE.grown {w : World} {B : Nat} {ok : Nat → Prop} {r : List S33 × List S33 × Bool} {W W' : World} (h : TkE w B ok r W) {row : Option Nat} (hg : W.grownBy W' row) (hr : ∀ r, row = some r → w.heap.size ≤ r ∧ ∃ o : Obj, W.heap[r]? = some o ∧ o.isCells = false) : TkE w B ok r W' := by
 obtain ⟨v1, v2, h0, h1, h2, h3, h4, h5⟩ := h
 have hne : ∀ (k : Nat) (o : Obj), W.heap[k]? = some o → o.isCells = true → some k ≠ row := fun k o hk hc e => by
  obtain ⟨-, o', ho', hn⟩ := hr k e.symm
  rw [hk] at ho'
  cases ho'
  rw [hc] at hn
  cases hn
 exact ⟨v1, v2, h0.grown hg h0.size (fun k e => (hr k e).1), blk_grown h1 hg (hne _ _ h1 rfl), blk_grown h2 hg (hne _ _ h2 rfl), blk_grown h3 hg (hne _ _ h3 rfl), h4.grownN hg (fun r e => (hr r e).2), h5.grownN hg (fun r e => (hr r e).2)⟩
theorem SlRd.far {w : World} {ok : Nat → Prop} {v : Value} {l : List S33} (h : SlRd w ok v l) (p : Addr) (hp : ∀ k, ok k → k ≠ p.block) (u : Value) : SlRd (w.setCell p u) ok v l := by
 obtain ⟨A, c, e, hc, hrd⟩ := h
 exact ⟨A, c, e, hc, hrd.step (fun k hk _ => Below.heap_setCell w p u k (hp k hk))⟩
theorem TkF.fin {w w1 : World} {B : Nat} {v3 : Value} {len : Int} {h : S33} {A2 : Option Addr} {c2 : Nat} (t : TkF w B w1 v3 len h A2 c2) (hB : B = w.heap.size) (ok : Nat → Prop) (v1 v2 : Value) (b : Bool) (l1 l2 : List S33)
  (h1 : SlRd w1 (fun k => (ok k ∧ k < w.heap.size) ∨ B + 6 ≤ k) v1 l1) (h2 : SlRd w1 (fun k => (ok k ∧ k < w.heap.size) ∨ B + 6 ≤ k) v2 l2) :
  TkE w B ok (l1, l2, b) (((w1.setCell ⟨B + 1 + 1 + 1, 0, none⟩ v1).setCell ⟨B + 1 + 1 + 1 + 1, 0, none⟩ v2).setCell ⟨B + 1 + 1 + 1 + 1 + 1, 0, none⟩ (.bool b)) := by
 have hk6 : ∀ k, ((ok k ∧ k < w.heap.size) ∨ B + 6 ≤ k) → k ≠ B + 1 + 1 + 1 ∧ k ≠ B + 1 + 1 + 1 + 1 ∧ k ≠ B + 1 + 1 + 1 + 1 + 1 := fun k hk => by omega
 refine ⟨v1, v2, ((t.bel.setCell (p := ⟨B + 1 + 1 + 1, 0, none⟩) (by show _ ≤ B + 1 + 1 + 1; omega) _).setCell (p := ⟨B + 1 + 1 + 1 + 1, 0, none⟩) (by show _ ≤ B + 1 + 1 + 1 + 1; omega) _).setCell (p := ⟨B + 1 + 1 + 1 + 1 + 1, 0, none⟩) (by show _ ≤ B + 1 + 1 + 1 + 1 + 1; omega) _, ?_, ?_, ?_, ?_, ?_⟩
 ·exact blk_far (blk_far (blk_set t.b6 0 v1) (p := ⟨B + 1 + 1 + 1 + 1, 0, none⟩) (by show B + 1 + 1 + 1 ≠ B + 1 + 1 + 1 + 1; omega) _) (p := ⟨B + 1 + 1 + 1 + 1 + 1, 0, none⟩) (by show B + 1 + 1 + 1 ≠ B + 1 + 1 + 1 + 1 + 1; omega) _
 ·exact blk_far (blk_set (blk_far t.b7 (p := ⟨B + 1 + 1 + 1, 0, none⟩) (by show B + 1 + 1 + 1 + 1 ≠ B + 1 + 1 + 1; omega) _) 0 v2) (p := ⟨B + 1 + 1 + 1 + 1 + 1, 0, none⟩) (by show B + 1 + 1 + 1 + 1 ≠ B + 1 + 1 + 1 + 1 + 1; omega) _
 ·exact blk_set (blk_far (blk_far t.b8 (p := ⟨B + 1 + 1 + 1, 0, none⟩) (by show B + 1 + 1 + 1 + 1 + 1 ≠ B + 1 + 1 + 1; omega) _) (p := ⟨B + 1 + 1 + 1 + 1, 0, none⟩) (by show B + 1 + 1 + 1 + 1 + 1 ≠ B + 1 + 1 + 1 + 1; omega) _) 0 (.bool b)
 ·exact ((h1.far _ (fun k hk => (hk6 k hk).1) _).far _ (fun k hk => (hk6 k hk).2.1) _).far _ (fun k hk => (hk6 k hk).2.2) _
 ·exact ((h2.far _ (fun k hk => (hk6 k hk).1) _).far _ (fun k hk => (hk6 k hk).2.1) _).far _ (fun k hk => (hk6 k hk).2.2) _
theorem placesL_bound {l : List S33} {p : Int} (h : p ∈ placesL l) : ∃ q : Nat, p = q ∧ q < l.length := by
 unfold placesL placesTo at h
 obtain ⟨q, hq, rfl⟩ := List.mem_map.1 h
 exact ⟨q, rfl, List.mem_range.1 (List.mem_filter.1 hq).1⟩
theorem bk_bound {zs : List Int} {N : Nat} (hz : ∀ p ∈ zs, ∃ q : Nat, p = q ∧ q < N) (hN : 0 < N) (x : Nat) : ∃ q : Nat, (bkAt zs x).2 = q ∧ q < N := by
 show ∃ q : Nat, zs[zs.length - 1 - x]?.getD 0 = q ∧ q < N
 cases h : zs[zs.length - 1 - x]? with
 | none => exact ⟨0, rfl, hN⟩
 | some p => exact hz p (List.mem_of_getElem? h)
theorem find_bk {zs : List Int} {p : Int → Bool} {k : Nat} (hk : k < zs.length) (h1 : ∀ j, j < k → p (bkAt zs j).2 = false) (h2 : p (bkAt zs k).2 = true) : zs.reverse.find? p = some (bkAt zs k).2 := by
 have e : ∀ j (hj : j < zs.length), (bkAt zs j).2 = zs.reverse[j]'(by rw [List.length_reverse]; exact hj) := fun j hj => by
  show zs[zs.length - 1 - j]?.getD 0 = _
  rw [List.getElem_reverse, List.getElem?_eq_getElem (by omega)]
  rfl
 rw [List.find?_eq_some_iff_getElem]
 exact ⟨h2, k, by rw [List.length_reverse]; exact hk, (e k hk).symm, fun j hj => by rw [← e j (by omega), h1 j hj]; rfl⟩
theorem find_bk_none {zs : List Int} {p : Int → Bool} (h1 : ∀ j, j < zs.length → p (bkAt zs j).2 = false) : zs.reverse.find? p = none := by
 rw [List.find?_eq_none]
 intro x hx
 obtain ⟨j, hj, rfl⟩ := List.getElem_of_mem hx
 rw [List.length_reverse] at hj
 have := h1 j hj
 have e : (bkAt zs j).2 = zs.reverse[j] := by
  show zs[zs.length - 1 - j]?.getD 0 = _
  rw [List.getElem_reverse, List.getElem?_eq_getElem (by omega)]
  rfl
 rw [e] at this
 rw [this]
 simp
theorem wp_mid3 {c : Code} {P : Program} {Q : Exit → Act → World → Prop} {a : Act} {w : World} {α β γ : Type} (A : α → β → γ → Act) (M : α → β → γ → World → Prop) (h1 : c.wp P (fun e a' w' => e = .normal ∧ ∃ x y z, a' = A x y z ∧ M x y z w') a w) (h2 : ∀ x y z w', M x y z w' → Q .normal (A x y z) w') : c.wp P Q a w :=
 Code.wp_mono (fun e a' w' ⟨he, x, y, z, ha, hm⟩ => by subst he; subst ha; exact h2 x y z w' hm) h1
theorem wpIn_mid1 {F : Fence} {n : Nat} {c : Code} {P : Program} {Q : Exit → Act → World → Prop} {a : Act} {w : World} {α : Type} (A : α → Act) (M : α → World → Prop) (h1 : c.wpIn F n P (fun e a' w' => e = .normal ∧ ∃ x, a' = A x ∧ M x w') a w) (h2 : ∀ x w', M x w' → Q .normal (A x) w') : c.wpIn F n P Q a w :=
 wpIn_mono h1 (fun e a' w' ⟨he, x, ha, hm⟩ => by subst he; subst ha; exact h2 x w' hm)
theorem wpIn_mid0 {F : Fence} {n : Nat} {c : Code} {P : Program} {Q : Exit → Act → World → Prop} {a : Act} {w : World} (A : Act) (M : World → Prop) (h1 : c.wpIn F n P (fun e a' w' => e = .normal ∧ a' = A ∧ M w') a w) (h2 : ∀ w', M w' → Q .normal A w') : c.wpIn F n P Q a w :=
 wpIn_mono h1 (fun e a' w' ⟨he, ha, hm⟩ => by subst he; subst ha; exact h2 w' hm)
theorem ko_below {W W' : World} (hb : Below W.heap.size W W') : KeepsOthers W W' := ⟨hb.size, fun k o h _ => (hb.block k (blk_lt h)).trans h⟩
theorem post_ret0 {F : Fence} {n : Nat} {P : Program} {fn : Func} {R : Ending → World → Prop} {tmps : Array Value} {w : World} {v : Value} (hr : (results fn tmps).run P w = .ok v w) (hR : R (.returned v) w) : bodyPostM F n P fn R .ret { tmps := tmps, defers := [] } w := ⟨v, hr, hR⟩
theorem post_ret1 {F : Fence} {n : Nat} {P : Program} {fn : Func} {R : Ending → World → Prop} {tmps : Array Value} {w : World} {v : Value} {D : Nat} (hK : w.heap[D]? = some (.deferred (some []))) (hr : (results fn tmps).run P (w.putObj D (.deferred none)) = .ok v (w.putObj D (.deferred none))) (hR : R (.returned v) (w.putObj D (.deferred none))) :
  bodyPostM F n P fn R .ret { tmps := tmps, defers := [{ target := .collected D, args := #[] }] } w := ⟨by simp, .inl ⟨_, _, rfl, run_takeDeferred hK, v, hr, hR⟩⟩
theorem take_results {tmps : Array Value} {B : Nat} {W : World} {v1 v2 : Value} {b : Bool} (t6 : tmps[6]? = some (.pointer (some ⟨B + 1 + 1 + 1, 0, none⟩))) (t7 : tmps[7]? = some (.pointer (some ⟨B + 1 + 1 + 1 + 1, 0, none⟩))) (t8 : tmps[8]? = some (.pointer (some ⟨B + 1 + 1 + 1 + 1 + 1, 0, none⟩)))
  (b6 : W.heap[B + 1 + 1 + 1]? = some (.cells #[v1] 23 (0, 0))) (b7 : W.heap[B + 1 + 1 + 1 + 1]? = some (.cells #[v2] 23 (0, 0))) (b8 : W.heap[B + 1 + 1 + 1 + 1 + 1]? = some (.cells #[.bool b] 4 (0, 0))) :
  (results Try.f39 tmps).run Try.prog W = .ok (.tuple #[v1, v2, .bool b]) W := by
 have c6 : W.cell? ⟨B + 1 + 1 + 1, 0, none⟩ = some v1 := by rw [blk_cell b6]; rfl
 have c7 : W.cell? ⟨B + 1 + 1 + 1 + 1, 0, none⟩ = some v2 := by rw [blk_cell b7]; rfl
 have c8 : W.cell? ⟨B + 1 + 1 + 1 + 1 + 1, 0, none⟩ = some (.bool b) := by rw [blk_cell b8]; rfl
 simp [results, Try.f39, go_sem, t6, t7, t8, c6, c7, c8]
theorem take_end0 {n : Nat} {tmps : Array Value} {w W : World} {B : Nat} {ok : Nat → Prop} {r : List S33 × List S33 × Bool} (hB : B = w.heap.size) (t6 : tmps[6]? = some (.pointer (some ⟨B + 1 + 1 + 1, 0, none⟩))) (t7 : tmps[7]? = some (.pointer (some ⟨B + 1 + 1 + 1 + 1, 0, none⟩))) (t8 : tmps[8]? = some (.pointer (some ⟨B + 1 + 1 + 1 + 1 + 1, 0, none⟩))) (h : TkE w B ok r W) :
  bodyPostM Fence.wide n Try.prog Try.f39 (fun e w' => ∃ v1 v2, e = .returned (.tuple #[v1, v2, .bool r.2.2]) ∧ SlRd w' (fun k => (ok k ∧ k < w.heap.size) ∨ w.heap.size ≤ k) v1 r.1 ∧ SlRd w' (fun k => (ok k ∧ k < w.heap.size) ∨ w.heap.size ≤ k) v2 r.2.1 ∧ Below w.heap.size w w') .ret { tmps := tmps, defers := [] } W := by
 obtain ⟨v1, v2, h0, h1, h2, h3, h4, h5⟩ := h
 exact post_ret0 (take_results t6 t7 t8 h1 h2 h3) ⟨v1, v2, rfl, h4.weaken (fun k hk => hk.imp id (fun h => by omega)), h5.weaken (fun k hk => hk.imp id (fun h => by omega)), h0⟩
theorem take_end1 {n : Nat} {tmps : Array Value} {w W : World} {B D : Nat} {ok : Nat → Prop} {r : List S33 × List S33 × Bool} (hB : B = w.heap.size) (hD : w.heap.size ≤ D) (hK : W.heap[D]? = some (.deferred (some []))) (t6 : tmps[6]? = some (.pointer (some ⟨B + 1 + 1 + 1, 0, none⟩))) (t7 : tmps[7]? = some (.pointer (some ⟨B + 1 + 1 + 1 + 1, 0, none⟩))) (t8 : tmps[8]? = some (.pointer (some ⟨B + 1 + 1 + 1 + 1 + 1, 0, none⟩))) (h : TkE w B ok r W) :
  bodyPostM Fence.wide n Try.prog Try.f39 (fun e w' => ∃ v1 v2, e = .returned (.tuple #[v1, v2, .bool r.2.2]) ∧ SlRd w' (fun k => (ok k ∧ k < w.heap.size) ∨ w.heap.size ≤ k) v1 r.1 ∧ SlRd w' (fun k => (ok k ∧ k < w.heap.size) ∨ w.heap.size ≤ k) v2 r.2.1 ∧ Below w.heap.size w w') .ret { tmps := tmps, defers := [{ target := .collected D, args := #[] }] } W := by
 obtain ⟨v1, v2, h0, h1, h2, h3, h4, h5⟩ := h.grown (W' := W.putObj D (.deferred none)) (row := some D) (grownBy_putObj' W D _) (fun r e => by cases e; exact ⟨hD, _, hK, rfl⟩)
 exact post_ret1 hK (take_results t6 t7 t8 h1 h2 h3) ⟨v1, v2, rfl, h4.weaken (fun k hk => hk.imp id (fun h => by omega)), h5.weaken (fun k hk => hk.imp id (fun h => by omega)), h0⟩
theorem take_any (A : Option Addr) (n c : Nat) (l : List S33) (ok : Nat → Prop) (w : World) (hr : boxK.Rd w ok A n l) (hc : n ≤ c) (hn : n ≤ 1000000000000) (hlen : ∀ x ∈ l, x.f6.length ≤ 9223372036854775807) (len : Int) (h : S33) (A2 : Option Addr) (c2 : Nat) (hh : Kind.int.Rd w ok A2 h.f6.length h.f6) (hc2 : h.f6.length ≤ c2) :
    Calls Try.prog 39 #[.slice A n c, .int .i64 len, .agg #[.int .i64 h.f0, .int .i64 h.f1, .int .i64 h.f2, .int .i64 h.f3, .string h.f4, .string h.f5, .slice A2 h.f6.length c2]] w fun e w' => ∃ v1 v2, e = .returned (.tuple #[v1, v2, .bool (takeL l len h).2.2]) ∧
      SlRd w' (fun k => (ok k ∧ k < w.heap.size) ∨ w.heap.size ≤ k) v1 (takeL l len h).1 ∧ SlRd w' (fun k => (ok k ∧ k < w.heap.size) ∨ w.heap.size ≤ k) v2 (takeL l len h).2.1 ∧ Below w.heap.size w w' := by
  have HLN := hide hr.1
  have HRL := hide hr
  have HLEN := hide hlen
  have HH := hide hh
  clear hr hlen hh
  refine (callsIn_wide (n := 5)).1 ?_
  refine callsIn_of_wp_marks Try.func39 rfl trivial ?_ rfl
  simp only [Try.ntmps39, List.size_toArray, List.length_cons, List.length_nil, Nat.reduceAdd, Nat.reduceSub, Array.replicate_succ, Array.replicate_zero, List.push_toArray, List.append_toArray, List.nil_append, List.cons_append]
  rw [wpIn_wide]
  obtain ⟨B, hB⟩ : ∃ B, B = w.heap.size := ⟨_, rfl⟩
  have HBQ := hide hB
  go_upto_region 1 with fail
  obtain ⟨w1, hw1⟩ : ∃ w1, w1 = takeW w (.slice A n c) len h A2 c2 := ⟨_, rfl⟩
  have HT1 : Hid (TkF w B w1 (.slice A n c) len h A2 c2) := hide (by rw [hw1, hB]; exact TkF.new ..)
  unfold takeW at hw1
  rw [← hw1, ← hB]
  clear hw1 hB
  have HR1 : Hid (boxK.Rd w1 (fun k => ok k ∧ k < w.heap.size) A n l) := hide (HRL.out.bound.below HT1.out.bel)
  have x3 : w1.cell? ⟨B, 0, none⟩ = some (.slice A n c) := by rw [blk_cell HT1.out.b3]; rfl
  go_upto_region 2 with (go_at_call 40; refine (rest_any A n c l (fun k => ok k ∧ k < w.heap.size) _ HR1.out hc (by omega) HLEN.out).mono ?_; rintro e w2 ⟨v, rfl, q1, q2⟩; obtain ⟨A3, c3, rfl, hc3, hr3⟩ := q1; have HR3 := hide hr3; have HQ2 := hide q2; have HT2 := hide (HT1.out.below q2); have y3 : w2.cell? ⟨B, 0, none⟩ = some (.slice A n c) := (by rw [blk_cell HT2.out.b3]; rfl); have y3f := blk_frozen (i := 0) HT2.out.b3; clear q2 hr3)
  obtain ⟨R, hR⟩ : ∃ R, R = restL l := ⟨_, rfl⟩
  rw [← hR] at hc3 HR3 ⊢
  have HTK : Hid (takeL l len h = takeGo R len h (R.length + 1) 0) := hide (by rw [hR]; rfl)
  have HLR : Hid (∀ x ∈ R, x.f6.length ≤ 9223372036854775807) := hide (fun x hx => HLEN.out x (by rw [hR] at hx; exact List.dropWhile_subset _ hx))
  have hRn : R.length ≤ 1000000000000 := by have := restL_le l; have := HLN.out; rw [hR]; omega
  obtain ⟨n3, hn3⟩ : ∃ n3, n3 = R.length := ⟨_, rfl⟩
  rw [← hn3] at HR3 hc3 hRn ⊢
  have HN3 := hide hn3
  have HS : Hid (boxK.Rd w (fun k => ok k ∧ k < w.heap.size) A3 n3 R) := hide (HR3.out.step (fun k hk _ => (HT2.out.bel.block k hk.2).symm))
  obtain ⟨w3, hw3⟩ : ∃ w3, w3 = w2.setCell ⟨B, 0, none⟩ (.slice A3 n3 c3) := ⟨_, rfl⟩
  have HT3 : Hid (TkF w B w3 (.slice A3 n3 c3) len h A2 c2) := hide (by rw [hw3]; exact HT2.out.set3 (by rw [← HBQ.out]; exact Nat.le_refl _) _)
  rw [← hw3]
  clear hw3 y3 y3f x3 hR hn3 HR3
  go_wp2_with fail
  go_loopw [9, 10] (fun t9 t10 wr => ∃ (i E fu : Nat), t9 = .int .i64 i ∧ t10 = .pointer (some ⟨E, 0, none⟩) ∧ i ≤ n3 ∧ B + 6 ≤ E ∧ Hid (takeL l len h = takeGo R len h fu i) ∧ n3 - i < fu ∧ Hid (TkF w B wr (.slice A3 n3 c3) len h A2 c2) ∧ Hid (wr.heap[E]? = some (.cells #[.int .i64 (i : Int)] 3 (0, 0)))) (fun t9 _ _ => n3 - (intOf t9).toNat)
  case atStart => exact ⟨0, w3.heap.size, n3 + 1, rfl, rfl, Nat.zero_le _, by have := blk_lt HT3.out.b8; omega, hide (by rw [HTK.out, HN3.out]), by omega, hide (HT3.out.below (below_a _)), hide (blk_new _ _)⟩
  case round =>
    obtain ⟨i, E, fu, rfl, rfl, hi, hE, HGO, hfu, HT, HE⟩ := hrel
    have x3 : wr.cell? ⟨B, 0, none⟩ = some (.slice A3 n3 c3) := by rw [blk_cell HT.out.b3]; rfl
    have xE : wr.cell? ⟨E, 0, none⟩ = some (.int .i64 (i : Int)) := by rw [blk_cell HE.out]; rfl
    by_cases hlt : i < n3
    · obtain ⟨g, hg⟩ : ∃ g, g = gapA R i := ⟨_, rfl⟩
      obtain ⟨rr, hrr⟩ : ∃ rr, rr = (restL (R.drop i)).length := ⟨_, rfl⟩
      have hgr : n3 - i = g + rr := by
        rw [hg, hrr]
        unfold gapA
        have := restL_le (R.drop i)
        have h2 : (R.drop i).length = R.length - i := List.length_drop
        have := HN3.out
        omega
      have hs1 : ∀ W, (Instr.slice 23 (.slice A3 n3 c3) (some (.int .i64 (i : Int))) none none).run Try.prog W = .ok (.slice (cutA A3 c3 i) (g + rr) (c3 - i)) W := fun W => by have := slice_low W A3 n3 c3 i hi; rw [hgr] at this; exact this
      have HRI : Hid (boxK.Rd w (fun k => ok k ∧ k < w.heap.size) (cutA A3 c3 i) (g + rr) (R.drop i)) := hide (by rw [← hgr]; exact rd_low HS.out hi hc3)
      have HG := hide hg
      have HRR := hide hrr
      have hgn : i + (g + rr) = n3 := by omega
      have hEb : B ≠ E := by omega
      have hltE : E < wr.heap.size := blk_lt HE.out
      have hltB : B < wr.heap.size := blk_lt HT.out.b3
      have hwg : IntKind.i64.wrap (g : Int) = g := by rw [IntKind.wrap_i64]; omega
      clear hg hrr hgr
      go_upto_region 5 with fail
      refine' wp_mid3 _ (fun (E1 : Nat) (A5 : Option Addr) (c5 : Nat) w6 => TkF w B w6 (.slice A3 n3 c3) len h A2 c2 ∧ w6.heap[E]? = some (.cells #[.int .i64 (i : Int)] 3 (0, 0)) ∧ w6.heap[E1]? = some (.cells #[.int .i64 (g : Int)] 3 (0, 0)) ∧ E ≠ E1 ∧ B + 6 ≤ E1) ?r5 ?r6
      case r5 =>
        go_region_held3 (fun w' => w'.cell? ⟨B, 0, none⟩ = some (.slice A3 n3 c3) ∧ w'.cell? ⟨E, 0, none⟩ = some (.int .i64 (i : Int))) (first
            | exact ⟨HX.out, HY.out⟩
            | exact ⟨x3, xE⟩
            | exact ⟨by rw [blk_cell (blk_alloc HT5.out.b3 _)]; rfl, by rw [blk_cell (blk_alloc HE5.out _)]; rfl⟩
            | exact ⟨(by rw [blk_cell (blk_alloc HT.out.b3 _)]; rfl : (wr.alloc (.cells #[.int .i64 0] 3)).cell? ⟨B, 0, none⟩ = _), (by rw [blk_cell (blk_alloc HE.out _)]; rfl : (wr.alloc (.cells #[.int .i64 0] 3)).cell? ⟨E, 0, none⟩ = _)⟩
            | exact ⟨by rw [blk_cell (blk_far HT5.out.b3 (p := ⟨wr.heap.size, 0, none⟩) (by show B ≠ wr.heap.size; omega) _)]; rfl, by rw [blk_cell (blk_far HE5.out (p := ⟨wr.heap.size, 0, none⟩) (by show E ≠ wr.heap.size; omega) _)]; rfl⟩
            | fail "own keep")
          (first
          | (go_at_call 40
             refine (rest_any (cutA A3 c3 i) (g + rr) (c3 - i) (R.drop i) (fun k => ok k ∧ k < w.heap.size) wr.drew (HRI.out.below HT.out.bel.drew) (by omega) (by omega) (lens_drop HLR.out i)).mono ?_
             rintro e w5 ⟨v5, rfl, q1, q2⟩
             obtain ⟨A5, c5, rfl, -, -⟩ := q1
             rw [← HRR.out]
             have HT5 : Hid (TkF w B w5 (.slice A3 n3 c3) len h A2 c2) := hide (HT.out.below (below_self ((Below.refl _ wr).drew) q2))
             have HE5 : Hid (w5.heap[E]? = some (.cells #[.int .i64 (i : Int)] 3 (0, 0))) := hide (blk_below HE.out (below_self ((Below.refl _ wr).drew) q2) hltE)
             have HX : Hid (w5.cell? ⟨B, 0, none⟩ = some (.slice A3 n3 c3)) := hide (by rw [blk_cell HT5.out.b3]; rfl)
             have HY : Hid (w5.cell? ⟨E, 0, none⟩ = some (.int .i64 (i : Int))) := hide (by rw [blk_cell HE5.out]; rfl)
             clear q2)
          | (go_at_call 40
             refine (rest_any (cutA A3 c3 i) (g + rr) (c3 - i) (R.drop i) (fun k => ok k ∧ k < w.heap.size) (wr.alloc (.cells #[.int .i64 0] 3)).drew (HRI.out.below (below_self HT.out.bel (below_a _)).drew) (by omega) (by omega) (lens_drop HLR.out i)).mono ?_
             rintro e w5 ⟨v5, rfl, q1, q2⟩
             obtain ⟨A5, c5, rfl, -, -⟩ := q1
             rw [← HRR.out]
             have qq : Below wr.heap.size wr w5 := below_self (below_a (w := wr) (.cells #[.int .i64 0] 3)).drew q2
             have HT5 : Hid (TkF w B w5 (.slice A3 n3 c3) len h A2 c2) := hide (HT.out.below qq)
             have HE5 : Hid (w5.heap[E]? = some (.cells #[.int .i64 (i : Int)] 3 (0, 0))) := hide (blk_below HE.out qq hltE)
             have HX : Hid (w5.cell? ⟨B, 0, none⟩ = some (.slice A3 n3 c3)) := hide (by rw [blk_cell HT5.out.b3]; rfl)
             have HY : Hid (w5.cell? ⟨E, 0, none⟩ = some (.int .i64 (i : Int))) := hide (by rw [blk_cell HE5.out]; rfl)
             have HN5 : Hid (w5.heap[wr.heap.size]? = some (.cells #[.int .i64 0] 3 (0, 0))) := hide (blk_below (w := (wr.alloc (.cells #[.int .i64 0] 3)).drew) (blk_new wr (.cells #[.int .i64 0] 3)) q2 (by simp))
             have z5 : w5.cell? ⟨wr.heap.size, 0, none⟩ = some (.int .i64 0) := (by rw [blk_cell HN5.out]; rfl)
             have z5f := blk_frozen (i := 0) HN5.out
             clear q2 qq))
        all_goals (first
          | (have HN5' := HN5
             obtain ⟨w6, hw6⟩ : ∃ w6, w6 = w5.setCell ⟨wr.heap.size, 0, none⟩ (.int .i64 (g : Int)) := ⟨_, rfl⟩
             obtain ⟨E1, hE1⟩ : ∃ E1, E1 = wr.heap.size := ⟨_, rfl⟩
             have HT6 : Hid (TkF w B w6 (.slice A3 n3 c3) len h A2 c2) := hide (by rw [hw6]; exact HT5.out.far (by have := HBQ.out; omega) (by omega) _)
             have HE6 : Hid (w6.heap[E]? = some (.cells #[.int .i64 (i : Int)] 3 (0, 0))) := hide (by rw [hw6]; exact blk_far HE5.out (p := ⟨wr.heap.size, 0, none⟩) (by show E ≠ wr.heap.size; omega) _)
             have HG6 : Hid (w6.heap[E1]? = some (.cells #[.int .i64 (g : Int)] 3 (0, 0))) := hide (by rw [hw6, hE1]; exact blk_set HN5.out 0 _)
             have hEE : E ≠ E1 := by omega
             have hE6 : B + 6 ≤ E1 := by omega
             clear HN5 z5 z5f HN5')
          | (obtain ⟨w6, hw6⟩ : ∃ w6, w6 = w5.alloc (.cells #[.int .i64 (g : Int)] 3) := ⟨_, rfl⟩
             obtain ⟨E1, hE1⟩ : ∃ E1, E1 = w5.heap.size := ⟨_, rfl⟩
             have HT6 : Hid (TkF w B w6 (.slice A3 n3 c3) len h A2 c2) := hide (by rw [hw6]; exact HT5.out.below (below_a _))
             have HE6 : Hid (w6.heap[E]? = some (.cells #[.int .i64 (i : Int)] 3 (0, 0))) := hide (by rw [hw6]; exact blk_alloc HE5.out _)
             have HG6 : Hid (w6.heap[E1]? = some (.cells #[.int .i64 (g : Int)] 3 (0, 0))) := hide (by rw [hw6, hE1]; exact blk_new _ _)
             have hEE : E ≠ E1 := by have := blk_lt HE5.out; omega
             have hE6 : B + 6 ≤ E1 := by have := blk_lt HE5.out; omega))
        all_goals (refine ⟨rfl, E1, A5, c5, ?_, by rw [← hw6]; exact HT6.out, by rw [← hw6]; exact HE6.out, by rw [← hw6]; exact HG6.out, hEE, hE6⟩; rw [← hE1]; try exact rfl)
      case r6 =>
        rintro E1 A5 c5 w6 ⟨ht6, he6, hg6, hEE, hE6⟩
        have HT6 := hide ht6
        have HE6 := hide he6
        have HG6 := hide hg6
        clear ht6 he6 hg6
        clear x3 xE
        have x3 : w6.cell? ⟨B, 0, none⟩ = some (.slice A3 n3 c3) := by rw [blk_cell HT6.out.b3]; rfl
        have xE : w6.cell? ⟨E, 0, none⟩ = some (.int .i64 (i : Int)) := by rw [blk_cell HE6.out]; rfl
        have xG : w6.cell? ⟨E1, 0, none⟩ = some (.int .i64 (g : Int)) := by rw [blk_cell HG6.out]; rfl
        have hwb : IntKind.i64.wrap ((i : Int) + g) = (i : Int) + g := by rw [IntKind.wrap_i64]; omega
        by_cases hbn : i + g = n3
        · have x6 : w6.cell? ⟨B + 1 + 1 + 1, 0, none⟩ = some (.slice none 0 0) := by rw [blk_cell HT6.out.b6]; rfl
          have x7 : w6.cell? ⟨B + 1 + 1 + 1 + 1, 0, none⟩ = some (.slice none 0 0) := by rw [blk_cell HT6.out.b7]; rfl
          have x8 : w6.cell? ⟨B + 1 + 1 + 1 + 1 + 1, 0, none⟩ = some (.bool false) := by rw [blk_cell HT6.out.b8]; rfl
          have f6 := blk_frozen (i := 0) HT6.out.b6
          have f7 := blk_frozen (i := 0) HT6.out.b7
          have f8 := blk_frozen (i := 0) HT6.out.b8
          have hbI : (i : Int) + g = n3 := by omega
          go_wp2_with fail
          have hans : takeL l len h = (R, [], false) := by
            rw [HGO.out]
            obtain ⟨f, rfl⟩ : ∃ f, fu = f + 1 := ⟨fu - 1, by omega⟩
            show (if i < R.length then (if begA R i = R.length then _ else _) else _) = _
            rw [if_pos (by have := HN3.out; omega), if_pos (by have := HN3.out; have := HG.out; unfold begA; omega)]
          rw [hans]
          exact take_end0 HBQ.out rfl rfl rfl (HT6.out.fin HBQ.out ok _ _ _ _ _ ⟨A3, c3, by rw [HN3.out], by rw [← HN3.out]; exact hc3, by rw [← HN3.out]; exact (HS.out.below HT6.out.bel).weaken (fun k hk => .inl hk)⟩ ⟨none, 0, rfl, Nat.le_refl _, Kind.Rd.nil _ _ _ _⟩)
        · have hbl : i + g < n3 := by omega
          have hbI : ¬ ((i : Int) + g = n3) := by omega
          obtain ⟨x, hx⟩ : ∃ x, x = (R.drop (i + g)).findIdx blankB := ⟨_, rfl⟩
          obtain ⟨st, hst⟩ : ∃ st, st = i + g + x := ⟨_, rfl⟩
          have HBEG : Hid (begA R i = i + g) := hide (by unfold begA; rw [HG.out])
          have HSTO : Hid (stopA R i = st) := hide (by unfold stopA; rw [HBEG.out, ← hx, hst])
          have hsl : st ≤ n3 := by have := stopA_le (row := R) (i := i) (by have := HN3.out; omega); have := HSTO.out; have := HN3.out; omega
          have hsg : i + g < st := by have := stopA_gt (row := R) (i := i) (by have := HN3.out; omega) (by have := HBEG.out; have := HN3.out; omega); have := HSTO.out; have := HBEG.out; omega
          have HX := hide hx
          have hs7 : ∀ W, (Instr.slice 23 (.slice A3 n3 c3) (some (.int .i64 ((i : Int) + g))) none none).run Try.prog W = .ok (.slice (cutA A3 c3 (i + g)) (n3 - (i + g)) (c3 - (i + g))) W := fun W => by have := slice_low W A3 n3 c3 (i + g) (by omega); rw [Int.natCast_add] at this; exact this
          have HR7 : Hid (boxK.Rd w (fun k => ok k ∧ k < w.heap.size) (cutA A3 c3 (i + g)) (n3 - (i + g)) (R.drop (i + g))) := hide (rd_low HS.out (by omega) hc3)
          have hws : IntKind.i64.wrap ((i : Int) + g + x) = (i : Int) + g + x := by rw [IntKind.wrap_i64]; omega
          have hltE6 : E < w6.heap.size := blk_lt HE6.out
          have hltG6 : E1 < w6.heap.size := blk_lt HG6.out
          clear hx
          go_upto_region 7 with fail
          go_region_held3 (fun w' => w'.cell? ⟨B, 0, none⟩ = some (.slice A3 n3 c3) ∧ w'.cell? ⟨E, 0, none⟩ = some (.int .i64 (i : Int)) ∧ w'.cell? ⟨E1, 0, none⟩ = some (.int .i64 (g : Int))) (first
            | exact ⟨x3, xE, xG⟩
            | exact ⟨by rw [blk_cell HT7.out.b3]; rfl, by rw [blk_cell HE7.out]; rfl, by rw [blk_cell HG7.out]; rfl⟩
            | fail "own keep")
            (first
             | (go_at_call 62
                refine (next_any (cutA A3 c3 (i + g)) (n3 - (i + g)) (c3 - (i + g)) (R.drop (i + g)) (fun k => ok k ∧ k < w.heap.size) w6.drew (HR7.out.below HT6.out.bel.drew) (by omega) (lens_drop HLR.out (i + g))).mono ?_
                rintro e w7 ⟨rfl, q⟩
                rw [← HX.out]
                have HT7 : Hid (TkF w B w7 (.slice A3 n3 c3) len h A2 c2) := hide (HT6.out.below (below_self ((Below.refl _ w6).drew) q))
                have HE7 : Hid (w7.heap[E]? = some (.cells #[.int .i64 (i : Int)] 3 (0, 0))) := hide (blk_below HE6.out (below_self ((Below.refl _ w6).drew) q) hltE6)
                have HG7 : Hid (w7.heap[E1]? = some (.cells #[.int .i64 (g : Int)] 3 (0, 0))) := hide (blk_below HG6.out (below_self ((Below.refl _ w6).drew) q) hltG6)
                clear q))
          rename_i hHld
          have hstI : (i : Int) + g + x = st := by omega
          rw [hstI]
          clear hHld x3 xE xG hstI hst hws hs7
          have x3 : w7.cell? ⟨B, 0, none⟩ = some (.slice A3 n3 c3) := by rw [blk_cell HT7.out.b3]; rfl
          have x4 : w7.cell? ⟨B + 1, 0, none⟩ = some (.int .i64 len) := by rw [blk_cell HT7.out.b4]; rfl
          have hs8 : ∀ W, (Instr.slice 23 (.slice A3 n3 c3) none (some (.int .i64 (st : Int))) none).run Try.prog W = .ok (.slice A3 st c3) W := fun W => slice_high W A3 n3 c3 st (by omega)
          have HR8 : Hid (boxK.Rd w (fun k => ok k ∧ k < w.heap.size) A3 st (R.take st)) := hide (rd_high HS.out hsl)
          obtain ⟨ww, hww⟩ : ∃ ww, ww = widthW (R.take st) := ⟨_, rfl⟩
          have HWW := hide hww
          clear hww
          have hltE7 : E < w7.heap.size := blk_lt HE7.out
          have hltG7 : E1 < w7.heap.size := blk_lt HG7.out
          go_upto_region 8 with fail
          go_region_held3 (fun w' => w'.cell? ⟨B, 0, none⟩ = some (.slice A3 n3 c3) ∧ w'.cell? ⟨B + 1, 0, none⟩ = some (.int .i64 len)) (first
            | exact ⟨x3, x4⟩
            | exact ⟨by rw [blk_cell HT8.out.b3]; rfl, by rw [blk_cell HT8.out.b4]; rfl⟩
            | fail "own keep")
            (first
             | (go_at_call 33
                refine (Width_any A3 st c3 (R.take st) (fun k => ok k ∧ k < w.heap.size) w7.drew (HR8.out.below HT7.out.bel.drew) (by omega)).mono ?_
                rintro e w8 ⟨rfl, q⟩
                rw [← HWW.out]
                have HT8 : Hid (TkF w B w8 (.slice A3 n3 c3) len h A2 c2) := hide (HT7.out.below (below_self ((Below.refl _ w7).drew) q))
                have HE8 : Hid (w8.heap[E]? = some (.cells #[.int .i64 (i : Int)] 3 (0, 0))) := hide (blk_below HE7.out (below_self ((Below.refl _ w7).drew) q) hltE7)
                have HG8 : Hid (w8.heap[E1]? = some (.cells #[.int .i64 (g : Int)] 3 (0, 0))) := hide (blk_below HG7.out (below_self ((Below.refl _ w7).drew) q) hltG7)
                clear q))
          rename_i hHld
          clear hHld x3 x4 hs8
          have x3 : w8.cell? ⟨B, 0, none⟩ = some (.slice A3 n3 c3) := by rw [blk_cell HT8.out.b3]; rfl
          have xE : w8.cell? ⟨E, 0, none⟩ = some (.int .i64 (i : Int)) := by rw [blk_cell HE8.out]; rfl
          have xG : w8.cell? ⟨E1, 0, none⟩ = some (.int .i64 (g : Int)) := by rw [blk_cell HG8.out]; rfl
          by_cases hfit : ww ≤ len
          · have fE := blk_frozen (i := 0) HE8.out
            go_wp2_with fail
            go_roundw
            case rel => exact ⟨st, _, fu - 1, rfl, rfl, hsl, by have := blk_lt HE8.out; simp; omega, hide (by
              rw [HGO.out]
              obtain ⟨f, rfl⟩ : ∃ f, fu = f + 1 := ⟨fu - 1, by omega⟩
              show (if i < R.length then (if begA R i = R.length then _ else (if widthW (R.take (stopA R i)) ≤ len then takeGo R len h f (stopA R i) else _)) else _) = _
              rw [if_pos (by have := HN3.out; omega), if_neg (by have := HN3.out; have := HBEG.out; omega), HSTO.out, if_pos (by rw [← HWW.out]; exact hfit)]
              rfl), by omega, hide ((HT8.out.far (by have := HBQ.out; omega) hE _).below (below_a _)), hide (by
              have h1 := blk_new (w8.setCell ⟨E, 0, none⟩ (.int .i64 (st : Int))) (.cells #[.int .i64 (st : Int)] 3)
              have h2 : (w8.setCell ⟨E, 0, none⟩ (.int .i64 (st : Int))).heap.size = w8.heap.size := by simp [World.setCell]
              rw [h2] at h1
              exact h1)⟩
            case measure => simp [intOf]; omega
          · have hs10 : ∀ W, (Instr.slice 23 (.slice A3 n3 c3) (some (.int .i64 ((i : Int) + g))) (some (.int .i64 (st : Int))) none).run Try.prog W = .ok (.slice (cutA A3 c3 (i + g)) (st - (i + g)) (c3 - (i + g))) W := fun W => by have := slice_mid W A3 n3 c3 (i + g) st (by omega) (by omega); rw [Int.natCast_add] at this; exact this
            have HR10 : Hid (boxK.Rd w (fun k => ok k ∧ k < w.heap.size) (cutA A3 c3 (i + g)) (st - (i + g)) ((R.take st).drop (i + g))) := hide (Kind.Rd.cut HS.out (by omega) hsl hc3)
            obtain ⟨zs, hzs⟩ : ∃ zs, zs = placesL ((R.take st).drop (i + g)) := ⟨_, rfl⟩
            have HZS : Hid (allA R i = zs) := hide (by unfold allA; rw [HBEG.out, HSTO.out, hzs, List.drop_take])
            have HZ := hide hzs
            clear hzs
            have HLC : Hid (∀ y ∈ (R.take st).drop (i + g), y.f6.length ≤ 9223372036854775807) := hide (lens_drop (lens_take HLR.out st) (i + g))
            go_wp2_with (first
              | (go_at_call 63
                 refine (places_any (cutA A3 c3 (i + g)) (st - (i + g)) (c3 - (i + g)) ((R.take st).drop (i + g)) (fun k => ok k ∧ k < w.heap.size) w8 (HR10.out.below HT8.out.bel) (by omega) (by omega) HLC.out).mono ?_
                 rintro e w9 ⟨v9, rfl, q1, q2⟩
                 rw [← HZ.out] at q1
                 obtain ⟨A9, c9, rfl, h9c, -, -, -, h9⟩ := q1.form
                 have HT9 : Hid (TkF w B w9 (.slice A3 n3 c3) len h A2 c2) := hide (HT8.out.below q2)
                 have HE9 : Hid (w9.heap[E]? = some (.cells #[.int .i64 (i : Int)] 3 (0, 0))) := hide (blk_below HE8.out q2 (blk_lt HE8.out))
                 have HG9 : Hid (w9.heap[E1]? = some (.cells #[.int .i64 (g : Int)] 3 (0, 0))) := hide (blk_below HG8.out q2 (blk_lt HG8.out))
                 have HZ9 := hide h9
                 have HZ9' : Hid (Kind.int.Rd w9 (fun k => B + 6 ≤ k) A9 zs.length zs) := hide (h9.weaken (fun k hk => by
                   rcases hk with hk | hk
                   · exact hk.elim
                   · have h1 := (q1.lt k hk).1
                     have h2 := blk_lt HT8.out.b8
                     omega))
                 clear q1 q2 h9)
              | (go_at_call 64
                 refine (Backward_any A9 zs.length c9 w9).mono ?_
                 rintro e w10 ⟨rfl, hw10⟩
                 have HW10 := hide hw10
                 clear hw10))
            have HT10 : Hid (TkF w B w10 (.slice A3 n3 c3) len h A2 c2) := hide (by rw [HW10.out]; exact HT9.out.below (below_a _))
            have HE10 : Hid (w10.heap[E]? = some (.cells #[.int .i64 (i : Int)] 3 (0, 0))) := hide (by rw [HW10.out]; exact blk_alloc HE9.out _)
            have HG10 : Hid (w10.heap[E1]? = some (.cells #[.int .i64 (g : Int)] 3 (0, 0))) := hide (by rw [HW10.out]; exact blk_alloc HG9.out _)
            have HZ10 : Hid (Kind.int.Rd w10 (fun k => k < w10.heap.size) A9 zs.length zs) := hide (by rw [HW10.out]; exact ((HZ9.out.below (below_a _)).bound).weaken (fun k hk => hk.2))
            have HZ10' : Hid (Kind.int.Rd w10 (fun k => B + 6 ≤ k) A9 zs.length zs) := hide (by rw [HW10.out]; exact HZ9'.out.below (below_a _))
            have HC10 : Hid (w10.cell? ⟨w9.heap.size, 0, none⟩ = some (.slice A9 zs.length c9)) := hide (by rw [HW10.out, blk_cell (blk_new w9 _)]; rfl)
            have HS10 : Hid (w9.heap.size < w10.heap.size) := hide (by rw [HW10.out]; simp)
            have HZB : Hid (∀ p ∈ zs, ∃ q : Nat, p = q ∧ q < st - (i + g)) := hide (fun p hp => by
              rw [HZ.out] at hp
              obtain ⟨q, e, hq⟩ := placesL_bound hp
              have := HR10.out.1
              exact ⟨q, e, by omega⟩)
            have hzl : zs.length ≤ 1000000000000 := by
              have h1 := placesTo_len ((R.take st).drop (i + g)) ((R.take st).drop (i + g)).length
              have h2 : zs.length = (placesTo ((R.take st).drop (i + g)) ((R.take st).drop (i + g)).length).length := by rw [HZ.out]; rfl
              have := HR10.out.1
              omega
            have hw10s : w.heap.size ≤ w10.heap.size := HT10.out.bel.size
            clear x3 xE xG hs10
            rw [← wpIn_wide (n := 5)]
            refine' wpIn_rangeFunc_ownF (F := Fence.wide) (n := 5) rfl (by decide) (gf := 78) (lb := #[.pointer (some ⟨w9.heap.size, 0, none⟩)]) rfl trivial (enters_of Try.func78 (by kernel_rfl) rfl)
              (Backward_stops Fence.wide 4 trivial rfl (by decide) w9.heap.size w10.heap.size A9 c9 zs hzl w10 HS10.out HS10.out (Nat.le_refl _) HC10.out HZ10.out) belowK_t (belowK_b (Nat.le_refl _)) (Below.refl _ _) (fun _ => rfl)
              (fun pre W => (∀ j ∈ pre, fitsL R len h i (bkAt zs j).2 = false) ∧ Below w10.heap.size w10 W)
              (fun c pre W => (c = .ret ∧ ∃ ini x, pre = ini ++ [x] ∧ (∀ j ∈ ini, fitsL R len h i (bkAt zs j).2 = false) ∧ fitsL R len h i (bkAt zs x).2 = true ∧ TkE w B ok (ansCut R h i (bkAt zs x).2) W))
              (OwnFrom.and (ownFrom_pure _ _) (ownFrom_below (Nat.le_refl _) (Nat.le_refl _)))
              (fun c s X Y row hs hg hr => by
                obtain ⟨e0, ini, x, e1, e2, e3, e4⟩ := hs
                exact ⟨e0, ini, x, e1, e2, e3, e4.grown hg (fun r e => ⟨Nat.le_trans hw10s (hr r e).1, (hr r e).2⟩)⟩)
              ⟨by simp, Below.refl _ _⟩ _ ?assign ?body ?done ?stop
            case assign =>
              intro l x W K hK
              gi_wp2
              exact hK
            case body =>
              rintro lo pre x W ⟨hp, hBW⟩ hpl
              have HP := hide hp
              have HBW := hide hBW
              clear hp hBW hpl
              obtain ⟨q, hq, hqN⟩ := bk_bound HZB.out (by omega) x
              rw [hq]
              have HQ := hide hq
              clear hq
              have HTW : Hid (TkF w B W (.slice A3 n3 c3) len h A2 c2) := hide (HT10.out.below HBW.out)
              have HEW : Hid (W.heap[E]? = some (.cells #[.int .i64 (i : Int)] 3 (0, 0))) := hide (blk_below HE10.out HBW.out (blk_lt HE10.out))
              have HGW : Hid (W.heap[E1]? = some (.cells #[.int .i64 (g : Int)] 3 (0, 0))) := hide (blk_below HG10.out HBW.out (blk_lt HG10.out))
              have HCUT : Hid (cutL R h i q = hyph (R.take (i + g + q)) h) := hide (by unfold cutL; rw [HBEG.out]; rfl)
              obtain ⟨tl, htl⟩ : ∃ tl, tl = hyph (R.take (i + g + q)) h := ⟨_, rfl⟩
              have HTL := hide htl
              have hwq : IntKind.i64.wrap ((i : Int) + g + q) = (i : Int) + g + q := by rw [IntKind.wrap_i64]; omega
              have hwq1 : IntKind.i64.wrap ((i : Int) + g + q + 1) = (i : Int) + g + q + 1 := by rw [IntKind.wrap_i64]; omega
              have hs14 : ∀ W, (Instr.slice 23 (.slice A3 n3 c3) none (some (.int .i64 ((i : Int) + g + q))) none).run Try.prog W = .ok (.slice A3 (i + g + q) c3) W := fun W => by have := slice_high W A3 n3 c3 (i + g + q) (by omega); rw [Int.natCast_add, Int.natCast_add] at this; exact this
              have hs16 : ∀ W, (Instr.slice 23 (.slice A3 n3 c3) (some (.int .i64 ((i : Int) + g + q + 1))) none none).run Try.prog W = .ok (.slice (cutA A3 c3 (i + g + q + 1)) (n3 - (i + g + q + 1)) (c3 - (i + g + q + 1))) W := fun W => by have := slice_low W A3 n3 c3 (i + g + q + 1) (by omega); rw [Int.natCast_add, Int.natCast_add, Int.natCast_add] at this; exact this
              have HR14 : Hid (boxK.Rd w (fun k => ok k ∧ k < w.heap.size) A3 (i + g + q) (R.take (i + g + q))) := hide (rd_high HS.out (by omega))
              have HR16 : Hid (boxK.Rd w (fun k => ok k ∧ k < w.heap.size) (cutA A3 c3 (i + g + q + 1)) (n3 - (i + g + q + 1)) (R.drop (i + g + q + 1))) := hide (rd_low HS.out (by omega) hc3)
              have HHw : Hid (Kind.int.Rd w (fun k => ok k ∧ k < w.heap.size) A2 h.f6.length h.f6) := hide HH.out.bound
              have x3 : W.cell? ⟨B, 0, none⟩ = some (.slice A3 n3 c3) := by rw [blk_cell HTW.out.b3]; rfl
              have xE : W.cell? ⟨E, 0, none⟩ = some (.int .i64 (i : Int)) := by rw [blk_cell HEW.out]; rfl
              have xG : W.cell? ⟨E1, 0, none⟩ = some (.int .i64 (g : Int)) := by rw [blk_cell HGW.out]; rfl
              have z0 : W.cell? ⟨B + 1 + 1, 0, none⟩ = some (.int .i64 h.f0) := by rw [blk_cell HTW.out.b5]; rfl
              have z1 : W.cell? ⟨B + 1 + 1, 1, none⟩ = some (.int .i64 h.f1) := by rw [blk_cell HTW.out.b5]; rfl
              have z2 : W.cell? ⟨B + 1 + 1, 2, none⟩ = some (.int .i64 h.f2) := by rw [blk_cell HTW.out.b5]; rfl
              have z3 : W.cell? ⟨B + 1 + 1, 3, none⟩ = some (.int .i64 h.f3) := by rw [blk_cell HTW.out.b5]; rfl
              have z4 : W.cell? ⟨B + 1 + 1, 4, none⟩ = some (.string h.f4) := by rw [blk_cell HTW.out.b5]; rfl
              have z5 : W.cell? ⟨B + 1 + 1, 5, none⟩ = some (.string h.f5) := by rw [blk_cell HTW.out.b5]; rfl
              have z6 : W.cell? ⟨B + 1 + 1, 6, none⟩ = some (.slice A2 h.f6.length c2) := by rw [blk_cell HTW.out.b5]; rfl
              have hWB : B + 6 ≤ W.heap.size := by have := blk_lt HTW.out.b8; omega
              clear htl
              refine wpIn_block ?_
              refine wpIn_seq_k fun K14 hK14 => ?_
              refine' wpIn_mid1 _ (fun v W' => SlRd W' (fun k => (ok k ∧ k < w.heap.size) ∨ B + 6 ≤ k) v tl ∧ Below W.heap.size W W') ?r14 ?r15
              case r14 =>
                refine wpIn_region_round (fun w' => w'.cell? ⟨B, 0, none⟩ = some (.slice A3 n3 c3) ∧ w'.cell? ⟨E, 0, none⟩ = some (.int .i64 (i : Int)) ∧ w'.cell? ⟨E1, 0, none⟩ = some (.int .i64 (g : Int)) ∧ w'.cell? ⟨B + 1 + 1, 0, none⟩ = some (.int .i64 h.f0) ∧ w'.cell? ⟨B + 1 + 1, 1, none⟩ = some (.int .i64 h.f1) ∧ w'.cell? ⟨B + 1 + 1, 2, none⟩ = some (.int .i64 h.f2) ∧ w'.cell? ⟨B + 1 + 1, 3, none⟩ = some (.int .i64 h.f3) ∧ w'.cell? ⟨B + 1 + 1, 4, none⟩ = some (.string h.f4) ∧ w'.cell? ⟨B + 1 + 1, 5, none⟩ = some (.string h.f5) ∧ w'.cell? ⟨B + 1 + 1, 6, none⟩ = some (.slice A2 h.f6.length c2)) (by kernel_rfl) (by kernel_rfl) (by rintro ⟨a, w, he, _⟩; cases he) ?_
                have hS0 : W.drew.cell? ⟨B, 0, none⟩ = some (.slice A3 n3 c3) ∧ W.drew.cell? ⟨E, 0, none⟩ = some (.int .i64 (i : Int)) ∧ W.drew.cell? ⟨E1, 0, none⟩ = some (.int .i64 (g : Int)) ∧ W.drew.cell? ⟨B + 1 + 1, 0, none⟩ = some (.int .i64 h.f0) ∧ W.drew.cell? ⟨B + 1 + 1, 1, none⟩ = some (.int .i64 h.f1) ∧ W.drew.cell? ⟨B + 1 + 1, 2, none⟩ = some (.int .i64 h.f2) ∧ W.drew.cell? ⟨B + 1 + 1, 3, none⟩ = some (.int .i64 h.f3) ∧ W.drew.cell? ⟨B + 1 + 1, 4, none⟩ = some (.string h.f4) ∧ W.drew.cell? ⟨B + 1 + 1, 5, none⟩ = some (.string h.f5) ∧ W.drew.cell? ⟨B + 1 + 1, 6, none⟩ = some (.slice A2 h.f6.length c2) := ⟨x3, xE, xG, z0, z1, z2, z3, z4, z5, z6⟩
                refine take_first 0 70 ?_ rfl rfl (by kernel_rfl) (by kernel_rfl) (by kernel_rfl) (fun _ _ _ h => by cases h.1) (Or.inl ⟨by rfl, ?hy⟩) hS0 ?rest
                case hy =>
                  intro w hSw
                  obtain ⟨s3, sE, sG, s0, s1, s2, s4, s5, s6, s7⟩ := hSw
                  go_simp
                  first | done | exact rfl
                case rest =>
                simp only [List.setIfInBounds_toArray, List.set_cons_zero, List.set_cons_succ]
                refine take_first 1 71 ?_ rfl rfl (by kernel_rfl) (by kernel_rfl) (by kernel_rfl) (fun _ _ _ h => by cases h.1) (Or.inl ⟨by rfl, ?hy⟩) hS0 ?rest
                case hy =>
                  intro w hSw
                  obtain ⟨s3, sE, sG, s0, s1, s2, s4, s5, s6, s7⟩ := hSw
                  go_simp
                  first | done | exact rfl
                case rest =>
                simp only [List.setIfInBounds_toArray, List.set_cons_zero, List.set_cons_succ]
                refine take_first 2 72 ?_ rfl rfl (by kernel_rfl) (by kernel_rfl) (by kernel_rfl) (fun _ _ _ h => by cases h.1) (Or.inl ⟨by rfl, ?hy⟩) hS0 ?rest
                case hy =>
                  intro w hSw
                  obtain ⟨s3, sE, sG, s0, s1, s2, s4, s5, s6, s7⟩ := hSw
                  go_simp
                  first | done | exact rfl
                case rest =>
                simp only [List.setIfInBounds_toArray, List.set_cons_zero, List.set_cons_succ]
                refine take_first 3 73 ?_ rfl rfl (by kernel_rfl) (by kernel_rfl) (by kernel_rfl) (fun _ _ _ h => by cases h.1) (Or.inl ⟨by rfl, ?hy⟩) hS0 ?rest
                case hy =>
                  intro w hSw
                  obtain ⟨s3, sE, sG, s0, s1, s2, s4, s5, s6, s7⟩ := hSw
                  go_simp
                  first | done | exact rfl
                case rest =>
                simp only [List.setIfInBounds_toArray, List.set_cons_zero, List.set_cons_succ]
                refine take_first 4 74 ?_ rfl rfl (by kernel_rfl) (by kernel_rfl) (by kernel_rfl) (fun _ _ _ h => by cases h.1) (Or.inl ⟨by rfl, ?hy⟩) hS0 ?rest
                case hy =>
                  intro w hSw
                  obtain ⟨s3, sE, sG, s0, s1, s2, s4, s5, s6, s7⟩ := hSw
                  go_simp
                  first | done | exact rfl
                case rest =>
                simp only [List.setIfInBounds_toArray, List.set_cons_zero, List.set_cons_succ]
                refine take_first 5 75 ?_ rfl rfl (by kernel_rfl) (by kernel_rfl) (by kernel_rfl) (fun _ _ _ h => by cases h.1) (Or.inl ⟨by rfl, ?hy⟩) hS0 ?rest
                case hy =>
                  intro w hSw
                  obtain ⟨s3, sE, sG, s0, s1, s2, s4, s5, s6, s7⟩ := hSw
                  go_simp
                  first | done | exact rfl
                case rest =>
                simp only [List.setIfInBounds_toArray, List.set_cons_zero, List.set_cons_succ]
                refine take_first 6 76 ?_ rfl rfl (by kernel_rfl) (by kernel_rfl) (by kernel_rfl) (fun _ _ _ h => by cases h.1) (Or.inl ⟨by rfl, ?hy⟩) hS0 ?rest
                case hy =>
                  intro w hSw
                  obtain ⟨s3, sE, sG, s0, s1, s2, s4, s5, s6, s7⟩ := hSw
                  go_simp
                  first | done | exact rfl
                case rest =>
                simp only [List.setIfInBounds_toArray, List.set_cons_zero, List.set_cons_succ]
                refine take_first 7 77 ?_ rfl rfl (by kernel_rfl) (by kernel_rfl) (by kernel_rfl) (fun _ _ _ h => by cases h.1) (Or.inl ⟨by rfl, ?hy⟩) hS0 ?rest
                case hy =>
                  intro w hSw
                  obtain ⟨s3, sE, sG, s0, s1, s2, s4, s5, s6, s7⟩ := hSw
                  go_simp
                  first | done | exact rfl
                case rest =>
                simp only [List.setIfInBounds_toArray, List.set_cons_zero, List.set_cons_succ]
                refine wpAnyH_ready (rs := [8]) (by kernel_rfl) (by simp) ?_
                refine AllReadyH.cons rfl (fun K hK => ?_) AllReadyH.nil
                go_simp
                go_at_call 65
                refine (hyphened_any A3 (i + g + q) c3 (R.take (i + g + q)) (fun k => ok k ∧ k < w.heap.size) W.drew (HR14.out.below HTW.out.bel.drew) (by omega) h A2 c2 (HHw.out.below HTW.out.bel.drew) hc2).mono ?_
                rintro e w14 ⟨v14, rfl, q1, q2⟩
                rw [← HTL.out] at q1
                have hb14 : Below W.heap.size W w14 := below_self ((Below.refl _ W).drew) q2
                have HT14 := HTW.out.below hb14
                have y3 : w14.cell? ⟨B, 0, none⟩ = some (.slice A3 n3 c3) := by rw [blk_cell HT14.b3]; rfl
                refine hK.out _ _ ⟨y3, by rw [blk_cell (blk_below HEW.out hb14 (blk_lt HEW.out))]; rfl, by rw [blk_cell (blk_below HGW.out hb14 (blk_lt HGW.out))]; rfl, by rw [blk_cell HT14.b5]; rfl, by rw [blk_cell HT14.b5]; rfl, by rw [blk_cell HT14.b5]; rfl, by rw [blk_cell HT14.b5]; rfl, by rw [blk_cell HT14.b5]; rfl, by rw [blk_cell HT14.b5]; rfl, by rw [blk_cell HT14.b5]; rfl⟩ (fun hS1 => ?_)
                try simp only [Act.put, List.setIfInBounds_toArray, List.set_cons_zero, List.set_cons_succ]
                refine take_first 9 17 ?_ rfl rfl (by kernel_rfl) (by kernel_rfl) (by kernel_rfl) (fun _ _ _ h => by cases h.1) (Or.inl ⟨by rfl, ?hy⟩) hS1 ?rest
                case hy =>
                  intro w hSw
                  go_simp
                  first | done | exact rfl
                case rest =>
                simp only [List.setIfInBounds_toArray, List.set_cons_zero, List.set_cons_succ]
                refine wpAnyH_done (by kernel_rfl) ?_ _
                refine ⟨rfl, v14, ?_, q1.weaken (fun k hk => by
                  rcases hk with ⟨⟨h1, h2⟩, -⟩ | h1
                  · exact .inl ⟨h1, h2⟩
                  · exact .inr (Nat.le_trans hWB h1)), hb14⟩
                with_reducible rfl
              case r15 =>
                rintro v W2 ⟨hv, hb2⟩
                have HV := hide hv
                have HB2 := hide hb2
                have HT2' : Hid (TkF w B W2 (.slice A3 n3 c3) len h A2 c2) := hide (HTW.out.below hb2)
                have HE2 : Hid (W2.heap[E]? = some (.cells #[.int .i64 (i : Int)] 3 (0, 0))) := hide (blk_below HEW.out hb2 (blk_lt HEW.out))
                have HG2 : Hid (W2.heap[E1]? = some (.cells #[.int .i64 (g : Int)] 3 (0, 0))) := hide (blk_below HGW.out hb2 (blk_lt HGW.out))
                clear hb2 x3 xE xG z0 z1 z2 z3 z4 z5 z6
                obtain ⟨A14, c14, rfl, h14, hr14⟩ := hv
                have HR14' := hide hr14
                clear hr14
                obtain ⟨wt, hwt⟩ : ∃ wt, wt = widthW tl := ⟨_, rfl⟩
                have HWT := hide hwt
                have htl9 : tl.length ≤ 9223372036854775807 := by
                  have h1 : (hyph (R.take (i + g + q)) h).length ≤ (R.take (i + g + q)).length + 1 := by
                    unfold hyph
                    split
                    · omega
                    · rw [List.length_append]; exact Nat.le_refl _
                  have h2 : (R.take (i + g + q)).length ≤ i + g + q := by rw [List.length_take]; exact Nat.min_le_left _ _
                  rw [HTL.out]
                  omega
                clear hwt
                show K14 _ _
                refine hK14 _ _ ?_
                refine wpIn_seq_k fun K15 hK15 => ?_
                refine' wpIn_mid0 _ (fun W' => Below W2.heap.size W2 W') ?r16 ?r17
                case r16 =>
                  have x4 : W2.cell? ⟨B + 1, 0, none⟩ = some (.int .i64 len) := by rw [blk_cell HT2'.out.b4]; rfl
                  refine wpIn_region_round (fun w' => w'.cell? ⟨B + 1, 0, none⟩ = some (.int .i64 len)) (by kernel_rfl) (by kernel_rfl) (by rintro ⟨a, w, he, _⟩; cases he) ?_
                  have hS0 : W2.drew.cell? ⟨B + 1, 0, none⟩ = some (.int .i64 len) := x4
                  refine take_first 0 79 ?_ rfl rfl (by kernel_rfl) (by kernel_rfl) (by kernel_rfl) (fun _ _ _ h => by cases h.1) (Or.inl ⟨by rfl, ?hy⟩) hS0 ?rest
                  case hy =>
                    intro w hSw
                    go_simp
                    first | done | exact rfl
                  case rest =>
                  simp only [List.setIfInBounds_toArray, List.set_cons_zero, List.set_cons_succ]
                  refine take_first 2 81 ?_ rfl rfl (by kernel_rfl) (by kernel_rfl) (by kernel_rfl) (fun _ _ _ h => by cases h.1) (Or.inl ⟨by rfl, ?hy⟩) hS0 ?rest
                  case hy =>
                    intro w hSw
                    go_simp
                    first | done | exact rfl
                  case rest =>
                  simp only [List.setIfInBounds_toArray, List.set_cons_zero, List.set_cons_succ]
                  refine wpAnyH_ready (rs := [1]) (by kernel_rfl) (by simp) ?_
                  refine AllReadyH.cons rfl (fun K hK => ?_) AllReadyH.nil
                  go_simp
                  go_at_call 33
                  refine (Width_any A14 tl.length c14 tl _ W2.drew HR14'.out htl9).mono ?_
                  rintro e w15 ⟨rfl, q2⟩
                  rw [← HWT.out]
                  have hb15 : Below W2.heap.size W2 w15 := below_self ((Below.refl _ W2).drew) q2
                  refine hK.out _ _ (by rw [blk_cell (HT2'.out.below hb15).b4]; rfl) (fun hS1 => ?_)
                  try simp only [Act.put, List.setIfInBounds_toArray, List.set_cons_zero, List.set_cons_succ]
                  refine take_first 3 82 ?_ rfl rfl (by kernel_rfl) (by kernel_rfl) (by kernel_rfl) (fun _ _ _ h => by cases h.1) (Or.inl ⟨by rfl, ?hy⟩) hS1 ?rest
                  case hy =>
                    intro w hSw
                    go_simp
                    first | done | exact rfl
                  case rest =>
                  simp only [List.setIfInBounds_toArray, List.set_cons_zero, List.set_cons_succ]
                  refine wpAnyH_done (by kernel_rfl) ?_ _
                  refine ⟨rfl, ?_, hb15⟩
                  with_reducible rfl
                case r17 =>
                  intro W3 hb3
                  have HB3 := hide hb3
                  have HT3' : Hid (TkF w B W3 (.slice A3 n3 c3) len h A2 c2) := hide (HT2'.out.below hb3)
                  have x3 : W3.cell? ⟨B, 0, none⟩ = some (.slice A3 n3 c3) := by rw [blk_cell HT3'.out.b3]; rfl
                  have xE : W3.cell? ⟨E, 0, none⟩ = some (.int .i64 (i : Int)) := by rw [blk_cell (blk_below HE2.out hb3 (blk_lt HE2.out))]; rfl
                  have xG : W3.cell? ⟨E1, 0, none⟩ = some (.int .i64 (g : Int)) := by rw [blk_cell (blk_below HG2.out hb3 (blk_lt HG2.out))]; rfl
                  have HSV : Hid (SlRd W3 (fun k => (ok k ∧ k < w.heap.size) ∨ B + 6 ≤ k) (.slice A14 tl.length c14) tl) := hide (HV.out.below hb3)
                  have HWW3 : Hid (Below W.heap.size W W3) := hide (below_self HB2.out hb3)
                  have HFQ : Hid (fitsL R len h i (bkAt zs x).2 = decide (wt ≤ len)) := hide (by unfold fitsL; rw [HQ.out, HCUT.out, ← HTL.out, ← HWT.out])
                  clear hb3
                  show K15 _ _
                  refine hK15 _ _ ?_
                  by_cases hf : wt ≤ len
                  · gi_wp2_with (refine ⟨trivial, ?_⟩; gi_at_call 40; refine (CallsIn.inRound lo (callsIn_wide.2 (rest_any (cutA A3 c3 (i + g + q + 1)) (n3 - (i + g + q + 1)) (c3 - (i + g + q + 1)) (R.drop (i + g + q + 1)) (fun k => ok k ∧ k < w.heap.size) W3 (HR16.out.below HT3'.out.bel) (by omega) (by omega) (lens_drop HLR.out _)))).mono ?_; rintro e w16 ⟨v16, rfl, q1, q2⟩; have HQ1 := hide q1; obtain ⟨A16, c16, rfl, -, -⟩ := q1; have HQ2' := hide q2; have HT16 := hide (HT3'.out.below q2); have x6 : w16.cell? ⟨B + 1 + 1 + 1, 0, none⟩ = some (.slice none 0 0) := (by rw [blk_cell HT16.out.b6]; rfl); have x7 : w16.cell? ⟨B + 1 + 1 + 1 + 1, 0, none⟩ = some (.slice none 0 0) := (by rw [blk_cell HT16.out.b7]; rfl); have x8 : w16.cell? ⟨B + 1 + 1 + 1 + 1 + 1, 0, none⟩ = some (.bool false) := (by rw [blk_cell HT16.out.b8]; rfl); have f6 := blk_frozen (i := 0) HT16.out.b6; have f7 := blk_frozen (i := 0) HT16.out.b7; have f8 := blk_frozen (i := 0) HT16.out.b8; clear q2)
                    have e1 : ansCut R h i (bkAt zs x).2 = (tl, restL (R.drop (i + g + q + 1)), true) := by
                      unfold ansCut
                      rw [HQ.out, HCUT.out, ← HTL.out, HBEG.out]
                      rfl
                    refine ⟨(ko_below (below_self HWW3.out HQ2'.out)).trans (((KeepsOthers.setCell _ _ _).trans (KeepsOthers.setCell _ _ _)).trans (KeepsOthers.setCell _ _ _)), rfl, pre, x, rfl, HP.out, by rw [HFQ.out]; exact decide_eq_true hf, ?_⟩
                    rw [e1]
                    exact HT16.out.fin HBQ.out ok _ _ _ _ _ (HSV.out.below HQ2'.out) (HQ1.out.weaken (fun k hk => .inl hk))
                  · gi_wp2_with fail
                    refine ⟨ko_below HWW3.out, HWW3.out.mono HBW.out.size, fun j hj => ?_, HBW.out.trans (HWW3.out.mono HBW.out.size)⟩
                    rcases List.mem_append.1 hj with hj | hj
                    · exact HP.out j hj
                    · rw [List.mem_singleton.1 hj, HFQ.out]
                      exact decide_eq_false (by omega)
            case done =>
              rintro D ys W hD rfl ⟨hp, hB⟩ hK
              have HNO : Hid ((allA R i).reverse.find? (fitsL R len h i) = none) := hide (by rw [HZS.out]; exact find_bk_none (fun j hj => hp j (List.mem_range.2 hj)))
              have HB11 := hide hB
              have HK := hide hK
              have HTW : Hid (TkF w B W (.slice A3 n3 c3) len h A2 c2) := hide (HT10.out.below hB)
              have x3 : W.cell? ⟨B, 0, none⟩ = some (.slice A3 n3 c3) := by rw [blk_cell HTW.out.b3]; rfl
              have HANS : Hid (takeL l len h = ansAt R len h i) := hide (by
                rw [HGO.out]
                obtain ⟨f, rfl⟩ : ∃ f, fu = f + 1 := ⟨fu - 1, by omega⟩
                show (if i < R.length then (if begA R i = R.length then _ else (if widthW (R.take (stopA R i)) ≤ len then _ else ansAt R len h i)) else _) = _
                rw [if_pos (by have := HN3.out; omega), if_neg (by have := HN3.out; have := HBEG.out; omega), HSTO.out, if_neg (by rw [← HWW.out]; omega)])
              clear hp hB hK
              have hDB : B + 6 ≤ D := by have := blk_lt HT10.out.b8; omega
              by_cases hi0 : 0 < i
              · clear HS10
                have hs18 : ∀ W, (Instr.slice 23 (.slice A3 n3 c3) none (some (.int .i64 (i : Int))) none).run Try.prog W = .ok (.slice A3 i c3) W := fun W => slice_high W A3 n3 c3 i (by omega)
                go_upto_region 18 with fail
                go_region_held3 (fun w' => w'.cell? ⟨B, 0, none⟩ = some (.slice A3 n3 c3)) (first
                  | exact x3
                  | (rw [blk_cell (HT18.out.b3)]; rfl)
                  | (rw [blk_cell (blk_far (HT18.out.b3) (p := ⟨B + 1 + 1 + 1, 0, none⟩) (by show B ≠ B + 1 + 1 + 1; omega) _)]; rfl)
                  | (rw [blk_cell (blk_far (blk_far (HT18.out.b3) (p := ⟨B + 1 + 1 + 1, 0, none⟩) (by show B ≠ B + 1 + 1 + 1; omega) _) (p := ⟨B + 1 + 1 + 1 + 1, 0, none⟩) (by show B ≠ B + 1 + 1 + 1 + 1; omega) _)]; rfl)
                  | (rw [blk_cell (blk_far (blk_far (blk_far (HT18.out.b3) (p := ⟨B + 1 + 1 + 1, 0, none⟩) (by show B ≠ B + 1 + 1 + 1; omega) _) (p := ⟨B + 1 + 1 + 1 + 1, 0, none⟩) (by show B ≠ B + 1 + 1 + 1 + 1; omega) _) (p := ⟨B + 1 + 1 + 1 + 1 + 1, 0, none⟩) (by show B ≠ B + 1 + 1 + 1 + 1 + 1; omega) _)]; rfl)
                  | fail "own keep")
                  (first
                   | (go_at_call 40
                      refine (rest_any (cutA A3 c3 i) (g + rr) (c3 - i) (R.drop i) (fun k => ok k ∧ k < w.heap.size) W.drew (HRI.out.below HTW.out.bel.drew) (by omega) (by omega) (lens_drop HLR.out _)).mono ?_
                      rintro e w18 ⟨v18, rfl, q1, q2⟩
                      have HQ1 := hide q1
                      obtain ⟨A18, c18, rfl, -, -⟩ := q1
                      have hb18 : Below W.heap.size W w18 := below_self ((Below.refl _ W).drew) q2
                      have HT18 : Hid (TkF w B w18 (.slice A3 n3 c3) len h A2 c2) := hide (HTW.out.below (hb18))
                      have HKw18 : Hid (w18.heap[D]? = some (.deferred (some []))) := hide (blk_below HK.out (hb18) (blk_lt HK.out))
                      have x6 : w18.cell? ⟨B + 1 + 1 + 1, 0, none⟩ = some (.slice none 0 0) := (by rw [blk_cell HT18.out.b6]; rfl)
                      have f6 := blk_frozen (i := 0) HT18.out.b6
                      have x7 : w18.cell? ⟨B + 1 + 1 + 1 + 1, 0, none⟩ = some (.slice none 0 0) := (by rw [blk_cell HT18.out.b7]; rfl)
                      have f7 := blk_frozen (i := 0) HT18.out.b7
                      have x8 : w18.cell? ⟨B + 1 + 1 + 1 + 1 + 1, 0, none⟩ = some (.bool false) := (by rw [blk_cell HT18.out.b8]; rfl)
                      have f8 := blk_frozen (i := 0) HT18.out.b8
                      clear q2 hb18))
                go_wp2_with fail
                have hans : takeL l len h = (R.take i, restL (R.drop i), true) := by
                  rw [HANS.out]
                  unfold ansAt
                  rw [HNO.out]
                  show (if 0 < i then _ else _) = _
                  rw [if_pos hi0]
                rw [hans]
                exact take_end1 HBQ.out (Nat.le_trans hw10s hD) (blk_far (blk_far (blk_far (HKw18.out) (p := ⟨B + 1 + 1 + 1, 0, none⟩) (by show D ≠ B + 1 + 1 + 1; omega) _) (p := ⟨B + 1 + 1 + 1 + 1, 0, none⟩) (by show D ≠ B + 1 + 1 + 1 + 1; omega) _) (p := ⟨B + 1 + 1 + 1 + 1 + 1, 0, none⟩) (by show D ≠ B + 1 + 1 + 1 + 1 + 1; omega) _) rfl rfl rfl (HT18.out.fin HBQ.out ok _ _ _ _ _ ⟨A3, c3, by rw [List.length_take]; congr 1; have := HN3.out; omega, by rw [List.length_take]; have := HN3.out; omega, by rw [List.length_take, Nat.min_eq_left (by have := HN3.out; omega)]; exact ((rd_high HS.out hi).below HT18.out.bel).weaken (fun k hk => .inl hk)⟩ (HQ1.out.weaken (fun k hk => .inl hk)))
              · by_cases hz0 : zs.length = 0
                · have hzI : ¬ ((0 : Int) < zs.length) := by omega
                  have hs18 : ∀ W, (Instr.slice 23 (.slice A3 n3 c3) none (some (.int .i64 (st : Int))) none).run Try.prog W = .ok (.slice A3 st c3) W := fun W => slice_high W A3 n3 c3 st (by omega)
                  have hs19 : ∀ W, (Instr.slice 23 (.slice A3 n3 c3) (some (.int .i64 (st : Int))) none none).run Try.prog W = .ok (.slice (cutA A3 c3 st) (n3 - st) (c3 - st)) W := fun W => slice_low W A3 n3 c3 st hsl
                  have HR21 : Hid (boxK.Rd w (fun k => ok k ∧ k < w.heap.size) (cutA A3 c3 st) (n3 - st) (R.drop st)) := hide (rd_low HS.out hsl hc3)
                  go_upto_region 21 with fail
                  go_region_held3 (fun w' => w'.cell? ⟨B, 0, none⟩ = some (.slice A3 n3 c3)) (first
                    | exact x3
                    | (rw [blk_cell (HT18.out.b3)]; rfl)
                    | (rw [blk_cell (blk_far (HT18.out.b3) (p := ⟨B + 1 + 1 + 1, 0, none⟩) (by show B ≠ B + 1 + 1 + 1; omega) _)]; rfl)
                    | (rw [blk_cell (blk_far (blk_far (HT18.out.b3) (p := ⟨B + 1 + 1 + 1, 0, none⟩) (by show B ≠ B + 1 + 1 + 1; omega) _) (p := ⟨B + 1 + 1 + 1 + 1, 0, none⟩) (by show B ≠ B + 1 + 1 + 1 + 1; omega) _)]; rfl)
                    | (rw [blk_cell (blk_far (blk_far (blk_far (HT18.out.b3) (p := ⟨B + 1 + 1 + 1, 0, none⟩) (by show B ≠ B + 1 + 1 + 1; omega) _) (p := ⟨B + 1 + 1 + 1 + 1, 0, none⟩) (by show B ≠ B + 1 + 1 + 1 + 1; omega) _) (p := ⟨B + 1 + 1 + 1 + 1 + 1, 0, none⟩) (by show B ≠ B + 1 + 1 + 1 + 1 + 1; omega) _)]; rfl)
                    | fail "own keep")
                    (first
                     | (go_at_call 40
                        refine (rest_any (cutA A3 c3 st) (n3 - st) (c3 - st) (R.drop st) (fun k => ok k ∧ k < w.heap.size) W.drew (HR21.out.below HTW.out.bel.drew) (by omega) (by omega) (lens_drop HLR.out _)).mono ?_
                        rintro e w18 ⟨v18, rfl, q1, q2⟩
                        have HQ1 := hide q1
                        obtain ⟨A18, c18, rfl, -, -⟩ := q1
                        have hb18 : Below W.heap.size W w18 := below_self ((Below.refl _ W).drew) q2
                        have HT18 : Hid (TkF w B w18 (.slice A3 n3 c3) len h A2 c2) := hide (HTW.out.below (hb18))
                        have HKw18 : Hid (w18.heap[D]? = some (.deferred (some []))) := hide (blk_below HK.out (hb18) (blk_lt HK.out))
                        have x6 : w18.cell? ⟨B + 1 + 1 + 1, 0, none⟩ = some (.slice none 0 0) := (by rw [blk_cell HT18.out.b6]; rfl)
                        have f6 := blk_frozen (i := 0) HT18.out.b6
                        have x7 : w18.cell? ⟨B + 1 + 1 + 1 + 1, 0, none⟩ = some (.slice none 0 0) := (by rw [blk_cell HT18.out.b7]; rfl)
                        have f7 := blk_frozen (i := 0) HT18.out.b7
                        have x8 : w18.cell? ⟨B + 1 + 1 + 1 + 1 + 1, 0, none⟩ = some (.bool false) := (by rw [blk_cell HT18.out.b8]; rfl)
                        have f8 := blk_frozen (i := 0) HT18.out.b8
                        clear q2 hb18))
                  go_wp2_with fail
                  have hans : takeL l len h = (R.take st, restL (R.drop st), true) := by
                    rw [HANS.out]
                    unfold ansAt
                    rw [HNO.out]
                    show (if 0 < i then _ else _) = _
                    rw [if_neg (by omega), HZS.out, List.eq_nil_of_length_eq_zero (by omega : zs.length = 0), HSTO.out]
                    rfl
                  rw [hans]
                  exact take_end1 HBQ.out (Nat.le_trans hw10s hD) (blk_far (blk_far (blk_far (HKw18.out) (p := ⟨B + 1 + 1 + 1, 0, none⟩) (by show D ≠ B + 1 + 1 + 1; omega) _) (p := ⟨B + 1 + 1 + 1 + 1, 0, none⟩) (by show D ≠ B + 1 + 1 + 1 + 1; omega) _) (p := ⟨B + 1 + 1 + 1 + 1 + 1, 0, none⟩) (by show D ≠ B + 1 + 1 + 1 + 1 + 1; omega) _) rfl rfl rfl (HT18.out.fin HBQ.out ok _ _ _ _ _ ⟨A3, c3, by rw [List.length_take]; congr 1; have := HN3.out; omega, by rw [List.length_take]; have := HN3.out; omega, by rw [List.length_take, Nat.min_eq_left (by have := HN3.out; omega)]; exact ((rd_high HS.out hsl).below HT18.out.bel).weaken (fun k hk => .inl hk)⟩ (HQ1.out.weaken (fun k hk => .inl hk)))
                · have hzI : (0 : Int) < zs.length := by omega
                  obtain ⟨b9, o9, rfl, hb9, hlt9, hc9⟩ := HZ10'.out.2 (by omega)
                  obtain ⟨p0, hp0⟩ : ∃ p0, zs[0]? = some p0 := ⟨_, List.getElem?_eq_getElem (by omega)⟩
                  obtain ⟨q0, hq0, hq0N⟩ := HZB.out p0 (List.mem_of_getElem? hp0)
                  subst hq0
                  obtain ⟨cs9, hk9, hcs9⟩ := hc9 0 _ hp0
                  have hk9' : cs9 = [Value.int .i64 (q0 : Int)] := hk9
                  subst hk9'
                  have z9 := hcs9 0 _ rfl
                  rw [Nat.zero_mul, Nat.add_zero] at z9
                  have HP0 := hide hp0
                  have Z9W : Hid (W.cell? ⟨b9, o9, none⟩ = some (.int .i64 (q0 : Int))) := hide ((HB11.out.cell (p := ⟨b9, o9, none⟩) hlt9).trans z9)
                  have HLT9 : Hid (b9 < w10.heap.size) := hide hlt9
                  have HEW : Hid (W.heap[E]? = some (.cells #[.int .i64 (i : Int)] 3 (0, 0))) := hide (blk_below HE10.out HB11.out (blk_lt HE10.out))
                  have HGW : Hid (W.heap[E1]? = some (.cells #[.int .i64 (g : Int)] 3 (0, 0))) := hide (blk_below HG10.out HB11.out (blk_lt HG10.out))
                  have HB9 : Hid (b9 ≠ B + 1 + 1 + 1 ∧ b9 ≠ B + 1 + 1 + 1 + 1 ∧ b9 ≠ B + 1 + 1 + 1 + 1 + 1) := hide (by omega)
                  clear hp0 hc9 hk9 hcs9 hlt9 z9 hb9
                  have hwq : IntKind.i64.wrap ((i : Int) + g + q0) = (i : Int) + g + q0 := by rw [IntKind.wrap_i64]; omega
                  have hwq1 : IntKind.i64.wrap ((i : Int) + g + q0 + 1) = (i : Int) + g + q0 + 1 := by rw [IntKind.wrap_i64]; omega
                  have hs20 : ∀ W, (Instr.slice 23 (.slice A3 n3 c3) none (some (.int .i64 ((i : Int) + g + q0))) none).run Try.prog W = .ok (.slice A3 (i + g + q0) c3) W := fun W => by have := slice_high W A3 n3 c3 (i + g + q0) (by omega); rw [Int.natCast_add, Int.natCast_add] at this; exact this
                  have hs21 : ∀ W, (Instr.slice 23 (.slice A3 n3 c3) (some (.int .i64 ((i : Int) + g + q0 + 1))) none none).run Try.prog W = .ok (.slice (cutA A3 c3 (i + g + q0 + 1)) (n3 - (i + g + q0 + 1)) (c3 - (i + g + q0 + 1))) W := fun W => by have := slice_low W A3 n3 c3 (i + g + q0 + 1) (by omega); rw [Int.natCast_add, Int.natCast_add, Int.natCast_add] at this; exact this
                  have HR20 : Hid (boxK.Rd w (fun k => ok k ∧ k < w.heap.size) A3 (i + g + q0) (R.take (i + g + q0))) := hide (rd_high HS.out (by omega))
                  have HR21 : Hid (boxK.Rd w (fun k => ok k ∧ k < w.heap.size) (cutA A3 c3 (i + g + q0 + 1)) (n3 - (i + g + q0 + 1)) (R.drop (i + g + q0 + 1))) := hide (rd_low HS.out (by omega) hc3)
                  have HHw : Hid (Kind.int.Rd w (fun k => ok k ∧ k < w.heap.size) A2 h.f6.length h.f6) := hide HH.out.bound
                  have hWB : B + 6 ≤ W.heap.size := by have := blk_lt HTW.out.b8; omega
                  have HC0 : Hid (W.cell? ⟨B, 0, none⟩ = some (.slice A3 n3 c3) ∧ W.cell? ⟨E, 0, none⟩ = some (.int .i64 (i : Int)) ∧ W.cell? ⟨E1, 0, none⟩ = some (.int .i64 (g : Int)) ∧ W.cell? ⟨B + 1 + 1, 0, none⟩ = some (.int .i64 h.f0) ∧ W.cell? ⟨B + 1 + 1, 1, none⟩ = some (.int .i64 h.f1) ∧ W.cell? ⟨B + 1 + 1, 2, none⟩ = some (.int .i64 h.f2) ∧ W.cell? ⟨B + 1 + 1, 3, none⟩ = some (.int .i64 h.f3) ∧ W.cell? ⟨B + 1 + 1, 4, none⟩ = some (.string h.f4) ∧ W.cell? ⟨B + 1 + 1, 5, none⟩ = some (.string h.f5) ∧ W.cell? ⟨B + 1 + 1, 6, none⟩ = some (.slice A2 h.f6.length c2) ∧ W.cell? ⟨b9, o9, none⟩ = some (.int .i64 (q0 : Int))) := hide ⟨x3, by rw [blk_cell HEW.out]; rfl, by rw [blk_cell HGW.out]; rfl, by rw [blk_cell HTW.out.b5]; rfl, by rw [blk_cell HTW.out.b5]; rfl, by rw [blk_cell HTW.out.b5]; rfl, by rw [blk_cell HTW.out.b5]; rfl, by rw [blk_cell HTW.out.b5]; rfl, by rw [blk_cell HTW.out.b5]; rfl, by rw [blk_cell HTW.out.b5]; rfl, Z9W.out⟩
                  clear x3
                  go_upto_region 20 with fail
                  go_region_held3 (fun w' => w'.cell? ⟨B, 0, none⟩ = some (.slice A3 n3 c3) ∧ w'.cell? ⟨E, 0, none⟩ = some (.int .i64 (i : Int)) ∧ w'.cell? ⟨E1, 0, none⟩ = some (.int .i64 (g : Int)) ∧ w'.cell? ⟨B + 1 + 1, 0, none⟩ = some (.int .i64 h.f0) ∧ w'.cell? ⟨B + 1 + 1, 1, none⟩ = some (.int .i64 h.f1) ∧ w'.cell? ⟨B + 1 + 1, 2, none⟩ = some (.int .i64 h.f2) ∧ w'.cell? ⟨B + 1 + 1, 3, none⟩ = some (.int .i64 h.f3) ∧ w'.cell? ⟨B + 1 + 1, 4, none⟩ = some (.string h.f4) ∧ w'.cell? ⟨B + 1 + 1, 5, none⟩ = some (.string h.f5) ∧ w'.cell? ⟨B + 1 + 1, 6, none⟩ = some (.slice A2 h.f6.length c2) ∧ w'.cell? ⟨b9, o9, none⟩ = some (.int .i64 (q0 : Int))) (first
                    | exact HC0.out
                    | exact HC20.out
                    | exact HC21.out
                    | exact HC22.out
                    | exact HC23.out
                    | exact HC24.out
                    | fail "own keep")
                    (first
                     | (go_at_call 65
                        refine (hyphened_any A3 (i + g + q0) c3 (R.take (i + g + q0)) (fun k => ok k ∧ k < w.heap.size) W.drew (HR20.out.below HTW.out.bel.drew) (by omega) h A2 c2 (HHw.out.below HTW.out.bel.drew) hc2).mono ?_
                        rintro e w20 ⟨v20, rfl, q1, q2⟩
                        have hb20 : Below W.heap.size W w20 := below_self ((Below.refl _ W).drew) q2
                        have HB20 := hide hb20
                        have HV20 : Hid (SlRd w20 (fun k => (ok k ∧ k < w.heap.size) ∨ B + 6 ≤ k) v20 (hyph (R.take (i + g + q0)) h)) := hide (q1.weaken (fun k hk => by
                          rcases hk with ⟨⟨h1, h2⟩, -⟩ | h1
                          · exact .inl ⟨h1, h2⟩
                          · exact .inr (Nat.le_trans hWB h1)))
                        obtain ⟨A20, c20, rfl, -, -⟩ := q1
                        have HT20 : Hid (TkF w B w20 (.slice A3 n3 c3) len h A2 c2) := hide (HTW.out.below hb20)
                        have HE20 : Hid (w20.heap[E]? = some (.cells #[.int .i64 (i : Int)] 3 (0, 0))) := hide (blk_below HEW.out hb20 (blk_lt HEW.out))
                        have HG20 : Hid (w20.heap[E1]? = some (.cells #[.int .i64 (g : Int)] 3 (0, 0))) := hide (blk_below HGW.out hb20 (blk_lt HGW.out))
                        have Z20 : Hid (w20.cell? ⟨b9, o9, none⟩ = some (.int .i64 (q0 : Int))) := hide ((hb20.cell (p := ⟨b9, o9, none⟩) (by have := HLT9.out; have := HB11.out.size; show b9 < _; omega)).trans Z9W.out)
                        have HC20 : Hid (w20.cell? ⟨B, 0, none⟩ = some (.slice A3 n3 c3) ∧ w20.cell? ⟨E, 0, none⟩ = some (.int .i64 (i : Int)) ∧ w20.cell? ⟨E1, 0, none⟩ = some (.int .i64 (g : Int)) ∧ w20.cell? ⟨B + 1 + 1, 0, none⟩ = some (.int .i64 h.f0) ∧ w20.cell? ⟨B + 1 + 1, 1, none⟩ = some (.int .i64 h.f1) ∧ w20.cell? ⟨B + 1 + 1, 2, none⟩ = some (.int .i64 h.f2) ∧ w20.cell? ⟨B + 1 + 1, 3, none⟩ = some (.int .i64 h.f3) ∧ w20.cell? ⟨B + 1 + 1, 4, none⟩ = some (.string h.f4) ∧ w20.cell? ⟨B + 1 + 1, 5, none⟩ = some (.string h.f5) ∧ w20.cell? ⟨B + 1 + 1, 6, none⟩ = some (.slice A2 h.f6.length c2) ∧ w20.cell? ⟨b9, o9, none⟩ = some (.int .i64 (q0 : Int))) := hide ⟨by rw [blk_cell HT20.out.b3]; rfl, by rw [blk_cell HE20.out]; rfl, by rw [blk_cell HG20.out]; rfl, by rw [blk_cell HT20.out.b5]; rfl, by rw [blk_cell HT20.out.b5]; rfl, by rw [blk_cell HT20.out.b5]; rfl, by rw [blk_cell HT20.out.b5]; rfl, by rw [blk_cell HT20.out.b5]; rfl, by rw [blk_cell HT20.out.b5]; rfl, by rw [blk_cell HT20.out.b5]; rfl, Z20.out⟩
                        clear q2 hb20)
                     | (go_at_call 40
                        refine (rest_any (cutA A3 c3 (i + g + q0 + 1)) (n3 - (i + g + q0 + 1)) (c3 - (i + g + q0 + 1)) (R.drop (i + g + q0 + 1)) (fun k => ok k ∧ k < w.heap.size) w20 (HR21.out.below HT20.out.bel) (by omega) (by omega) (lens_drop HLR.out _)).mono ?_
                        rintro e w18 ⟨v18, rfl, q1, q2⟩
                        have HQ1 := hide q1
                        obtain ⟨A18, c18, rfl, -, -⟩ := q1
                        have hb18 : Below W.heap.size W w18 := below_self HB20.out q2
                        have HV21 := hide (HV20.out.below q2)
                        have HT18 : Hid (TkF w B w18 (.slice A3 n3 c3) len h A2 c2) := hide (HTW.out.below (hb18))
                        have HKw18 : Hid (w18.heap[D]? = some (.deferred (some []))) := hide (blk_below HK.out (hb18) (blk_lt HK.out))
                        have x6 : w18.cell? ⟨B + 1 + 1 + 1, 0, none⟩ = some (.slice none 0 0) := (by rw [blk_cell HT18.out.b6]; rfl)
                        have f6 := blk_frozen (i := 0) HT18.out.b6
                        have x7 : w18.cell? ⟨B + 1 + 1 + 1 + 1, 0, none⟩ = some (.slice none 0 0) := (by rw [blk_cell HT18.out.b7]; rfl)
                        have f7 := blk_frozen (i := 0) HT18.out.b7
                        have x8 : w18.cell? ⟨B + 1 + 1 + 1 + 1 + 1, 0, none⟩ = some (.bool false) := (by rw [blk_cell HT18.out.b8]; rfl)
                        have f8 := blk_frozen (i := 0) HT18.out.b8
                        have HE18 : Hid (w18.heap[E]? = some (.cells #[.int .i64 (i : Int)] 3 (0, 0))) := hide (blk_below HEW.out hb18 (blk_lt HEW.out))
                        have HG18 : Hid (w18.heap[E1]? = some (.cells #[.int .i64 (g : Int)] 3 (0, 0))) := hide (blk_below HGW.out hb18 (blk_lt HGW.out))
                        have Z18 : Hid (w18.cell? ⟨b9, o9, none⟩ = some (.int .i64 (q0 : Int))) := hide ((hb18.cell (p := ⟨b9, o9, none⟩) (by have := HLT9.out; have := HB11.out.size; show b9 < _; omega)).trans Z9W.out)
                        have HC21 : Hid (w18.cell? ⟨B, 0, none⟩ = some (.slice A3 n3 c3) ∧ w18.cell? ⟨E, 0, none⟩ = some (.int .i64 (i : Int)) ∧ w18.cell? ⟨E1, 0, none⟩ = some (.int .i64 (g : Int)) ∧ w18.cell? ⟨B + 1 + 1, 0, none⟩ = some (.int .i64 h.f0) ∧ w18.cell? ⟨B + 1 + 1, 1, none⟩ = some (.int .i64 h.f1) ∧ w18.cell? ⟨B + 1 + 1, 2, none⟩ = some (.int .i64 h.f2) ∧ w18.cell? ⟨B + 1 + 1, 3, none⟩ = some (.int .i64 h.f3) ∧ w18.cell? ⟨B + 1 + 1, 4, none⟩ = some (.string h.f4) ∧ w18.cell? ⟨B + 1 + 1, 5, none⟩ = some (.string h.f5) ∧ w18.cell? ⟨B + 1 + 1, 6, none⟩ = some (.slice A2 h.f6.length c2) ∧ w18.cell? ⟨b9, o9, none⟩ = some (.int .i64 (q0 : Int))) := hide ⟨by rw [blk_cell (HT18.out.b3)]; rfl, by rw [blk_cell (HE18.out)]; rfl, by rw [blk_cell (HG18.out)]; rfl, by rw [blk_cell (HT18.out.b5)]; rfl, by rw [blk_cell (HT18.out.b5)]; rfl, by rw [blk_cell (HT18.out.b5)]; rfl, by rw [blk_cell (HT18.out.b5)]; rfl, by rw [blk_cell (HT18.out.b5)]; rfl, by rw [blk_cell (HT18.out.b5)]; rfl, by rw [blk_cell (HT18.out.b5)]; rfl, Z18.out⟩
                        have HC22 := hide (far11 HC21.out (B + 1 + 1 + 1) (.slice A20 (hyph (R.take (i + g + q0)) h).length c20) (by omega) (by omega) (by omega) (by omega) (fun e => HB9.out.1 e.symm))
                        have HC23 := hide (far11 HC22.out (B + 1 + 1 + 1 + 1) (.slice A18 (restL (R.drop (i + g + q0 + 1))).length c18) (by omega) (by omega) (by omega) (by omega) (fun e => HB9.out.2.1 e.symm))
                        have HC24 := hide (far11 HC23.out (B + 1 + 1 + 1 + 1 + 1) (.bool true) (by omega) (by omega) (by omega) (by omega) (fun e => HB9.out.2.2 e.symm))
                        clear q2 hb18))
                  go_wp2_with fail
                  have hans : takeL l len h = (hyph (R.take (i + g + q0)) h, restL (R.drop (i + g + q0 + 1)), true) := by
                    rw [HANS.out]
                    unfold ansAt
                    rw [HNO.out]
                    show (if 0 < i then _ else _) = _
                    rw [if_neg (by omega), HZS.out, HP0.out]
                    show (hyph (R.take (begA R i + ((q0 : Int)).toNat)) h, restL (R.drop (begA R i + ((q0 : Int)).toNat + 1)), true) = _
                    rw [HBEG.out]
                    rfl
                  rw [hans]
                  exact take_end1 HBQ.out (Nat.le_trans hw10s hD) (blk_far (blk_far (blk_far (HKw18.out) (p := ⟨B + 1 + 1 + 1, 0, none⟩) (by show D ≠ B + 1 + 1 + 1; omega) _) (p := ⟨B + 1 + 1 + 1 + 1, 0, none⟩) (by show D ≠ B + 1 + 1 + 1 + 1; omega) _) (p := ⟨B + 1 + 1 + 1 + 1 + 1, 0, none⟩) (by show D ≠ B + 1 + 1 + 1 + 1 + 1; omega) _) rfl rfl rfl (HT18.out.fin HBQ.out ok _ _ _ _ _ HV21.out (HQ1.out.weaken (fun k hk => .inl hk)))
            case stop =>
              rintro D c pre W hD ⟨k, hk, rfl⟩ ⟨rfl, ini, x, e1, hp, hf, hT⟩ hK
              obtain ⟨k', rfl⟩ : ∃ k', k = k' + 1 := by
                cases k with
                | zero => simp at e1
                | succ k' => exact ⟨k', rfl⟩
              rw [List.range_succ] at e1
              obtain ⟨rfl, e5⟩ := List.append_inj' e1 rfl
              obtain rfl : k' = x := by simpa using e5
              have hfind := find_bk (p := fitsL R len h i) (k := k') (zs := zs) (by omega) (fun j hj => hp j (List.mem_range.2 hj)) hf
              have HANS : Hid (takeL l len h = ansCut R h i (bkAt zs k').2) := hide (by
                rw [HGO.out]
                obtain ⟨f, rfl⟩ : ∃ f, fu = f + 1 := ⟨fu - 1, by omega⟩
                show (if i < R.length then (if begA R i = R.length then _ else (if widthW (R.take (stopA R i)) ≤ len then _ else ansAt R len h i)) else _) = _
                rw [if_pos (by have := HN3.out; omega), if_neg (by have := HN3.out; have := HBEG.out; omega), HSTO.out, if_neg (by rw [← HWW.out]; omega)]
                unfold ansAt
                rw [HZS.out, hfind])
              rw [wpIn_wide]
              have HTE := hide hT
              have HK := hide hK
              clear e1 e5 hp hf hT hK hfind
              go_wp2_with fail
              rw [HANS.out]
              exact take_end1 HBQ.out (Nat.le_trans hw10s hD) HK.out rfl rfl rfl HTE.out
    · obtain rfl : i = n3 := by omega
      have x6 : wr.cell? ⟨B + 1 + 1 + 1, 0, none⟩ = some (.slice none 0 0) := by rw [blk_cell HT.out.b6]; rfl
      have x7 : wr.cell? ⟨B + 1 + 1 + 1 + 1, 0, none⟩ = some (.slice none 0 0) := by rw [blk_cell HT.out.b7]; rfl
      have x8 : wr.cell? ⟨B + 1 + 1 + 1 + 1 + 1, 0, none⟩ = some (.bool false) := by rw [blk_cell HT.out.b8]; rfl
      have f6 := blk_frozen (i := 0) HT.out.b6
      have f7 := blk_frozen (i := 0) HT.out.b7
      have f8 := blk_frozen (i := 0) HT.out.b8
      go_wp2_with fail
      have hans : takeL l len h = (R, [], false) := by
        rw [HGO.out]
        obtain ⟨f, rfl⟩ : ∃ f, fu = f + 1 := ⟨fu - 1, by omega⟩
        show (if i < R.length then _ else _) = _
        rw [if_neg (by have := HN3.out; omega)]
      rw [hans]
      exact take_end0 HBQ.out rfl rfl rfl (HT.out.fin HBQ.out ok _ _ _ _ _ ⟨A3, c3, by rw [HN3.out], by rw [← HN3.out]; exact hc3, by rw [← HN3.out]; exact (HS.out.below HT.out.bel).weaken (fun k hk => .inl hk)⟩ ⟨none, 0, rfl, Nat.le_refl _, Kind.Rd.nil _ _ _ _⟩)
end Go.Proofs.YteadghhmoggjnaaB
end
end
