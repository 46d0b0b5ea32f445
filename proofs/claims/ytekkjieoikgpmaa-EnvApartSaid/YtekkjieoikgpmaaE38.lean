/- The law EnvApart: the row of what is kept. -/
import Derived.Test.YtekkjieoikgpmaaE36
set_option linter.unusedVariables false
set_option linter.unusedSimpArgs false
namespace Go.Proofs.Ytekkjieoikgpmaa
open Go.RowKit
set_option maxHeartbeats 1600000
set_option maxRecDepth 1000000
/-- The cells of three first ones. -/
def firstCs3 : List Value := firstCs ++ firstCs ++ firstCs
theorem build_three (W : World) : (Instr.buildSlice 61 3 #[(0, .agg firstCs.toArray), (1, .agg firstCs.toArray), (2, .agg firstCs.toArray)]).run Try.prog W = .ok (.slice (some ⟨W.heap.size, 0, none⟩) 3 3) (W.alloc (.cells firstCs3.toArray 29)) := by kernel_rfl
theorem wpList_bs3 {P : Program} {ops : Array Oper} {rest : List Oper} {o : Oper} {a : Act} {w w' : World} {Q : Exit → Act → World → Prop} (hg : o.guard = none) (t : TypeId) (x y z : Operand) (ho : o.op = .buildSlice t 3 #[(0, x), (1, y), (2, z)]) (xv yv zv v : Value) (hx : a.eval x = xv) (hy : a.eval y = yv) (hz : a.eval z = zv)
    (hrun : (Instr.buildSlice t 3 #[(0, xv), (1, yv), (2, zv)]).run P w = .ok v w') (h : wpList P ops Q rest (a.put o.dst v) w') : wpList P ops Q (o :: rest) a w :=
  wpList_plain hg fun K hK => by
    unfold Oper.wp execOp
    simp only [ho, List.map_toArray, List.map_cons, List.map_nil, hx, hy, hz, Sem.run_bind, hrun, Result.andThen_ok]
    exact hK _ _ h
/-- The names of the three. -/
def nm3 (k : Nat) : ByteArray := if k = 0 then ⟨#[48]⟩ else if k = 1 then ⟨#[97]⟩ else ⟨#[98]⟩
theorem nm3_0 : nm3 0 = name0 := rfl
theorem nm3_ok (k : Nat) : nameB (nm3 k) = true ∧ (nm3 k).size ≤ 9223372036854775807 := by
  unfold nm3
  split
  · exact ⟨by kernel_rfl, by decide +kernel⟩
  · split
    · exact ⟨by kernel_rfl, by decide +kernel⟩
    · exact ⟨by kernel_rfl, by decide +kernel⟩
theorem nm3_ne {j k : Nat} (hj : j < 3) (hk : k < 3) (h : j ≠ k) : nm3 j ≠ nm3 k := by
  have h1 : j = 0 ∨ j = 1 ∨ j = 2 := by omega
  have h2 : k = 0 ∨ k = 1 ∨ k = 2 := by omega
  rcases h1 with rfl | rfl | rfl <;> rcases h2 with rfl | rfl | rfl <;> first | exact absurd rfl h | decide +kernel
/-- The blocks that the kept ones may lead to. -/
def okK (g b : Nat) (sv : Value) (KB k : Nat) : Prop := ¬ Mut g b sv k ∧ k ≠ KB
structure KeptRow (w : World) (g b : Nat) (sv : Value) (KB : Nat) (m : List EnvT) : Prop where
  row : envK.RowAt 29 w (okK g b sv KB) KB 3 m
  free : ¬ Mut g b sv KB
  len : m.length = 3
theorem row_weaken {α : Type} {d : Kind α} {e : TypeId} {w : World} {ok ok' : Nat → Prop} {g cap : Nat} {m : List α} (h : d.RowAt e w ok g cap m) (hok : ∀ k, ok k → k < w.heap.size → ok' k) : d.RowAt e w ok' g cap m := by
  obtain ⟨cur, h1, h2, h3, h4, h5, h6⟩ := h
  exact ⟨cur, h1, h2, h3, h4, h5, fun i x hx => d.weaken (fun k hk => hok k hk.1 hk.2) (d.bound (h6 i x hx))⟩
theorem KeptRow.kept {w w' : World} {g b : Nat} {sv sv' : Value} {KB : Nat} {m : List EnvT} (h : KeptRow w g b sv KB m) (hk : Kept (Mut g b sv) w w') (hv : ∀ k, sv'.ownBlock = some k → sv.ownBlock = some k ∨ w.heap.size ≤ k) : KeptRow w' g b sv' KB m := by
  have hB := h.row.lt
  have h1 := row_weaken h.row (ok' := fun k => okK g b sv' KB k ∧ okK g b sv KB k) (fun k hk1 hk2 => ⟨⟨not_mut hk1.1 hk2 hv, hk1.2⟩, hk1⟩)
  refine ⟨row_weaken (h1.step (hk.block KB hB h.free) (fun k hk1 hk2 => hk.block k hk2 hk1.2.1)) (fun k hk1 _ => hk1.1), not_mut h.free hB hv, h.len⟩
theorem KeptRow.keep {w w' : World} {g b : Nat} {sv : Value} {KB : Nat} {m : List EnvT} (h : KeptRow w g b sv KB m) (hk : Kept (Mut g b sv) w w') : KeptRow w' g b sv KB m := h.kept hk (fun _ h => .inl h)
theorem KeptRow.get {w : World} {g b : Nat} {sv : Value} {KB : Nat} {m : List EnvT} (h : KeptRow w g b sv KB m) {k : Nat} {x : EnvT} (hx : m[k]? = some x) : ∃ cs, envK.K w (okK g b sv KB) x cs ∧ w.rangeAt KB (k * 40) cs ∧ cs.length = 40 := by
  obtain ⟨cs, h1, h2⟩ := h.row.cells' hx
  exact ⟨cs, h1, fun j v hv => h2 j v hv, envK.len h1⟩
theorem KeptRow.there {w : World} {g b : Nat} {sv : Value} {KB : Nat} {m : List EnvT} (h : KeptRow w g b sv KB m) {k : Nat} (hk : k < 3) : w.there KB (k * 40) 40 := by
  obtain ⟨cur, h1, h2, -⟩ := h.row
  have h3 : cur.size = 3 * 40 := h2
  exact there_blk h1 _ _ (by omega)
theorem KeptRow.set {w : World} {g b : Nat} {sv : Value} {KB : Nat} {m : List EnvT} (h : KeptRow w g b sv KB m) {k : Nat} (hk : k < 3) {y : EnvT} {cs : List Value} (hy : envK.K w (okK g b sv KB) y cs) : KeptRow (w.setCells KB (k * 40) cs) g b sv KB (m.set k y) :=
  ⟨h.row.set (by rw [h.len]; exact hk) hy (fun k hk => hk.2), h.free, by rw [List.length_set, h.len]⟩
/-- What is kept is what is there; a name that is not there has the first one. -/
def KO (F : ByteArray → Option EnvT) (m : List EnvT) : Prop := ∀ k, k < 3 → F (nm3 k) = m[k]? ∨ (F (nm3 k) = none ∧ m[k]? = some firstT)
def cnt (F : ByteArray → Option EnvT) (s : ByteArray) : Nat := if (F s).isSome then 0 else 1
theorem KO.enter {F : ByteArray → Option EnvT} {m : List EnvT} (h : KO F m) (hl : m.length = 3) {k : Nat} (hk : k < 3) (hn : F (nm3 k) = none) : KO (updT F (nm3 k) firstT) m ∧ m[k]? = some firstT := by
  have h0 : m[k]? = some firstT := by
    rcases h k hk with e | e
    · rw [hn, List.getElem?_eq_getElem (by omega)] at e
      cases e
    · exact e.2
  refine ⟨fun j hj => ?_, h0⟩
  by_cases e : j = k
  · subst e; rw [updT_same, h0]; exact .inl rfl
  · rw [updT_other _ _ (nm3_ne hj hk e)]; exact h j hj
/-- The environment of a name is set, and what is kept with it. -/
theorem KO.put {F : ByteArray → Option EnvT} {m : List EnvT} (h : KO F m) (hl : m.length = 3) {k : Nat} (hk : k < 3) (y : EnvT) : KO (updT F (nm3 k) y) (m.set k y) := fun j hj => by
  by_cases e : j = k
  · subst e
    rw [updT_same, List.getElem?_set_self (by omega)]
    exact .inl rfl
  · rw [updT_other _ _ (nm3_ne hj hk e), List.getElem?_set_ne (fun h => e h.symm)]
    exact h j hj
theorem cnt_put {F : ByteArray → Option EnvT} {s t : ByteArray} {y x : EnvT} (h : F s = some x) : cnt (updT F s y) t = cnt F t := by
  unfold cnt
  by_cases e : t = s
  · subst e; rw [updT_same, h]; rfl
  · rw [updT_other _ _ e]
theorem cnt_enter {F : ByteArray → Option EnvT} {k : Nat} (hk : k < 3) (h0 : ∃ x, F (nm3 0) = some x) (hn : F (nm3 k) = none) (y : EnvT) : cnt (updT F (nm3 k) y) (nm3 1) + cnt (updT F (nm3 k) y) (nm3 2) + 1 = cnt F (nm3 1) + cnt F (nm3 2) := by
  have h : k = 0 ∨ k = 1 ∨ k = 2 := by omega
  rcases h with rfl | rfl | rfl
  · obtain ⟨x, hx⟩ := h0; rw [hn] at hx; cases hx
  · have e1 : cnt (updT F (nm3 1) y) (nm3 1) = 0 := by unfold cnt; rw [updT_same]; rfl
    have e2 : cnt (updT F (nm3 1) y) (nm3 2) = cnt F (nm3 2) := by unfold cnt; rw [updT_other _ _ (nm3_ne (by omega) (by omega) (by omega))]
    have e3 : cnt F (nm3 1) = 1 := by unfold cnt; rw [hn]; rfl
    omega
  · have e1 : cnt (updT F (nm3 2) y) (nm3 2) = 0 := by unfold cnt; rw [updT_same]; rfl
    have e2 : cnt (updT F (nm3 2) y) (nm3 1) = cnt F (nm3 1) := by unfold cnt; rw [updT_other _ _ (nm3_ne (by omega) (by omega) (by omega))]
    have e3 : cnt F (nm3 2) = 1 := by unfold cnt; rw [hn]; rfl
    omega
/-- The names' row. -/
def NamesAt (w : World) (g b : Nat) (sv : Value) (NB : Nat) : Prop := ¬ Mut g b sv NB ∧ w.heap[NB]? = some (.cells #[.string ⟨#[48]⟩, .string ⟨#[97]⟩, .string ⟨#[98]⟩] 9 (0, 0))
theorem NamesAt.kept {w w' : World} {g b : Nat} {sv sv' : Value} {NB : Nat} (h : NamesAt w g b sv NB) (hk : Kept (Mut g b sv) w w') (hv : ∀ k, sv'.ownBlock = some k → sv.ownBlock = some k ∨ w.heap.size ≤ k) : NamesAt w' g b sv' NB := ⟨not_mut h.1 (blk_lt h.2) hv, blk_kept h.2 hk h.1⟩
theorem NamesAt.get {w : World} {g b : Nat} {sv : Value} {NB k : Nat} (h : NamesAt w g b sv NB) (hk : k < 3) : w.cell? ⟨NB, k, none⟩ = some (.string (nm3 k)) := by
  rw [blk_cell h.2]
  have h : k = 0 ∨ k = 1 ∨ k = 2 := by omega
  rcases h with rfl | rfl | rfl <;> rfl
theorem kept_first (w : World) (e : TypeId) (ok : Nat → Prop) : envK.RowAt e (w.alloc (.cells firstCs3.toArray e)) ok w.heap.size 3 [firstT, firstT, firstT] := by
  refine ⟨_, blk_new w _, rfl, by decide, by decide, ?_⟩
  have h := (((Kind.Reps.nil envK (w.alloc (.cells firstCs3.toArray e)) ok).snoc (first_K _ _)).snoc (first_K _ _)).snoc (first_K _ _)
  have e1 : (firstCs3.toArray.toList.take ([firstT, firstT, firstT].length * envK.sz)) = [] ++ firstCs ++ firstCs ++ firstCs := rfl
  rw [e1]
  exact h
/-- One walk for all orders of what a region does. -/
theorem key_four {T : Nat → List Value → List Value → World → Prop} {M : Nat → List Value → List Value → World → Prop} {G : Prop} (hw : (∀ V c d w, T V c d w → M V c d w) → G) (hk : ∀ V c d w, T V c d w → M V c d w) : G := hw hk
/-- A changed environment in a block of its own. -/
def ChgAt (wr : World) (y : EnvT) (V : Nat) (c d : List Value) (w : World) : Prop := w.heap[V]? = some (.cells d.toArray 29 (0, 0)) ∧ envK.K w (fun k => wr.heap.size ≤ k ∧ k ≠ V) y d ∧ Below wr.heap.size wr w ∧ wr.heap.size ≤ V
end Go.Proofs.Ytekkjieoikgpmaa
