/- Worlds put aside: what the walk needs of them stays (general). -/
import Derived.Test.YtekkjieoikgpmaaE0
set_option linter.unusedVariables false
namespace Go.Proofs.Ytekkjieoikgpmaa
open Go.RowKit
section
variable {P : Program} {c : Code} {Q : Exit → Act → World → Prop} {a : Act} {w : World}
theorem wp_one {C : Array Value} {t : TypeId} (h : ∀ W, W.heap[w.heap.size]? = some (.cells C t (0, 0)) → Below w.heap.size w W → W.heap.size = w.heap.size + 1 → c.wp P Q a W) : c.wp P Q a (w.alloc (.cells C t)) :=
  h _ (blk_new _ _) ((Below.refl _ _).alloc (Nat.le_refl _) _) (by simp)
theorem wp_two {C Z : Array Value} {t t' : TypeId} (h : ∀ W, W.heap[w.heap.size]? = some (.cells C t (0, 0)) → W.heap[w.heap.size + 1]? = some (.cells Z t' (0, 0)) → Below w.heap.size w W → W.heap.size = w.heap.size + 2 → c.wp P Q a W) :
    c.wp P Q a ((w.alloc (.cells C t)).alloc (.cells Z t')) :=
  h _ (blk_alloc (blk_new _ _) _) (by have := blk_new (w.alloc (.cells C t)) (.cells Z t'); simpa using this) (((Below.refl _ _).alloc (Nat.le_refl _) _).alloc (by simp) _) (by simp)
theorem wp_set {g i : Nat} {u : Value} {cs : Array Value} {t : TypeId} (hb : w.heap[g]? = some (.cells cs t (0, 0))) (h : ∀ W, W.heap[g]? = some (.cells (cs.setIfInBounds i u) t (0, 0)) → Kept (fun k => k = g) w W → W.heap.size = w.heap.size → c.wp P Q a W) : c.wp P Q a (w.setCell ⟨g, i, none⟩ u) :=
  h _ (blk_set hb i u) ((Kept.refl (fun k => k = g) w).setCell (p := ⟨g, i, none⟩) (.inl rfl) u) (by simp [World.setCell])
theorem wp_setRow {g : Nat} {cs cs' : Array Value} {t : TypeId} (hb : w.heap[g]? = some (.cells cs t (0, 0))) (h : ∀ W, W.heap[g]? = some (.cells cs' t (0, 0)) → Kept (fun k => k = g) w W → W.heap.size = w.heap.size → c.wp P Q a W) : c.wp P Q a (w.setRow g cs') :=
  h _ (setRow_heap w g cs cs' t (0, 0) hb) ⟨rfl, rfl, rfl, by simp, fun k _ hk => setRow_other w g k _ hk⟩ (by simp)
end
theorem blk_size {w W : World} {S : Nat → Prop} {g : Nat} {o : Obj} (h : w.heap[g]? = some o) (hk : Kept S w W) (hg : ¬ S g) : W.heap[g]? = some o := blk_kept h hk hg
end Go.Proofs.Ytekkjieoikgpmaa
