/- The store's map of names: what it is as a function of the names; its laws. -/
import Derived.Test.YtbchokjhbjnfcaaS2
import Derived.Maps.OwnSet
import Derived.StringKeys
set_option linter.unusedVariables false
set_option linter.unusedSimpArgs false
namespace Go.Proofs.Ytbchokjhbjnfcaa
open Go.RowKit
set_option maxHeartbeats 800000

/-- A pointer to a block's first cell, or to nothing. -/
def ptr : Option Nat → Value
  | none => .pointer none
  | some g => .pointer (some ⟨g, 0, none⟩)
def encP : Option Nat → Int
  | none => -1
  | some g => (g : Int)
def pElem (v : Value) : Option (DataW Unit × List MemPlace) :=
  match v with
  | .pointer none => some (.lit (.int .i64 (-1)), [])
  | .pointer (some ⟨g, 0, none⟩) => some (.lit (.int .i64 g), [])
  | _ => none
theorem pElem_ptr (o : Option Nat) : pElem (ptr o) = some (.lit (.int .i64 (encP o)), []) := by cases o <;> rfl
theorem pElem_inv {v : Value} {o : Option Nat} {ps : List MemPlace} (h : pElem v = some (.lit (.int .i64 (encP o)), ps)) : v = ptr o := by
  unfold pElem at h
  split at h
  · injection h with h
    injection h with h _
    injection h with h
    injection h with _ h
    cases o with
    | none => rfl
    | some g => exact absurd h (by show ¬ ((-1 : Int) = (g : Int)); omega)
  · injection h with h
    injection h with h _
    injection h with h
    injection h with _ h
    cases o with
    | none => exact absurd h (by show ¬ (_ = (-1 : Int)); omega)
    | some g =>
      have h2 := Int.ofNat_inj.1 h
      subst h2
      rfl
  · cases h
theorem kstr : Maps.Keyed Try.prog 9 := Maps.string_keyed Try.underlying9
theorem zero_ent (w : World) : (zeroValue 62).run Try.prog w = .ok (.pointer none) w := by kernel_rfl
def upd (F : ByteArray → Option Nat) (s : ByteArray) (o : Option Nat) : ByteArray → Option Nat := fun t => if t = s then o else F t
theorem upd_same (F : ByteArray → Option Nat) (s : ByteArray) (o : Option Nat) : upd F s o s = o := by unfold upd; rw [if_pos rfl]
theorem upd_other (F : ByteArray → Option Nat) {s t : ByteArray} (o : Option Nat) (h : t ≠ s) : upd F s o t = F t := by unfold upd; rw [if_neg h]
/-- Block b is a map of sz names that leads as F says. -/
def MapIs (w : World) (b : Nat) (F : ByteArray → Option Nat) (sz : Nat) : Prop :=
  ∃ D : DataW Unit, w.ownsMap Try.prog 9 pElem b sz D ∧ Maps.size D = sz ∧ ∀ s : ByteArray, s.size ≤ 9223372036854775807 →
    D.atKey (.string s.data.toList) (.lit (.int .i64 (-1))) = .lit (.int .i64 (encP (F s))) ∧ Maps.has D (.string s.data.toList) = (F s).isSome
namespace MapIs
variable {w w' : World} {b sz : Nat} {F : ByteArray → Option Nat} {s : ByteArray}
theorem key (hs : s.size ≤ 9223372036854775807) : keyOf Try.prog 9 (.string s) = some (.string s.data.toList) := WideMaps.keyOf_string_mk Try.underlying9 hs
theorem ne_key {s t : ByteArray} (h : t ≠ s) : (Lit.string t.data.toList) ≠ .string s.data.toList := fun e => h (by
  injection e with e
  exact WideShapes.bytes_inj e)
theorem made (w : World) : MapIs (w.alloc (.map #[] 0)) w.heap.size (fun _ => none) 0 := ⟨_, World.ownsMap_made w Try.prog 9 pElem, rfl, fun s _ => ⟨rfl, rfl⟩⟩
theorem lt (h : MapIs w b F sz) : b < w.heap.size := by
  obtain ⟨D, h1, _⟩ := h
  exact h1.lt
theorem step (h : MapIs w b F sz) (hb : w'.heap[b]? = w.heap[b]?) : MapIs w' b F sz := by
  obtain ⟨D, ⟨es, clock, h1, h2⟩, h3⟩ := h
  exact ⟨D, ⟨es, clock, hb.trans h1, h2⟩, h3⟩
theorem below (h : MapIs w b F sz) (hb : Below w.heap.size w w') : MapIs w' b F sz := h.step (hb.block b h.lt)
theorem block (h : MapIs w b F sz) : ∃ es clock, w.heap[b]? = some (.map es clock) := by
  obtain ⟨D, ⟨es, clock, h1, h2⟩, h3⟩ := h
  exact ⟨es, clock, h1⟩
theorem look (h : MapIs w b F sz) (hs : s.size ≤ 9223372036854775807) : (Instr.lookup 47 (.map (some b)) (.string s) false).run Try.prog w = .ok (ptr (F s)) w := by
  obtain ⟨D, h1, h2, h3⟩ := h
  obtain ⟨v, ps, hrun, hv⟩ := h1.lookup kstr Try.underlying47 (zero_ent w) (pElem_ptr none) (key hs)
  have e : (D.atKey (.string s.data.toList) (.lit (.int .i64 (encP none)))) = .lit (.int .i64 (encP (F s))) := (h3 s hs).1
  rw [e] at hv
  rw [hrun, pElem_inv hv]
theorem look_ok (h : MapIs w b F sz) (hs : s.size ≤ 9223372036854775807) : (Instr.lookup 47 (.map (some b)) (.string s) true).run Try.prog w = .ok (.tuple #[ptr (F s), .bool (F s).isSome]) w := by
  obtain ⟨D, h1, h2, h3⟩ := h
  obtain ⟨v, ps, hrun, hv⟩ := h1.look_ok kstr Try.underlying47 (zero_ent w) (pElem_ptr none) (key hs)
  have e : (D.atKey (.string s.data.toList) (.lit (.int .i64 (encP none)))) = .lit (.int .i64 (encP (F s))) := (h3 s hs).1
  rw [e] at hv
  rw [hrun, pElem_inv hv, (h3 s hs).2]
theorem len (h : MapIs w b F sz) (ty : TypeId) : (Builtin.len_ #[47] ty #[.map (some b)]).run Try.prog w = .ok (.int .i64 sz) w := by
  obtain ⟨D, h1, h2, h3⟩ := h
  rw [h1.len Try.underlying47 ty, h2]
theorem put (h : MapIs w b F sz) (hs : s.size ≤ 9223372036854775807) (hn : sz < 9223372036854775807) (g : Nat) :
    ∃ w', (Instr.mapUpdate 47 (.map (some b)) (.string s) (.pointer (some ⟨g, 0, none⟩))).run Try.prog w = .ok () w' ∧ MapIs w' b (upd F s (some g)) (if (F s).isSome then sz else sz + 1) ∧ w.grownBy w' (some b) := by
  obtain ⟨D, h1, h2, h3⟩ := h
  have hm : maxLen = 9223372036854775807 := rfl
  obtain ⟨w', hrun, h4, h5⟩ := h1.update kstr Try.underlying47 (by omega) (key hs) (val := .pointer (some ⟨g, 0, none⟩)) (pElem_ptr (some g))
  have hk : WideAt.IsKeyLit (.string s.data.toList) := kstr.key (key hs)
  have ht := h1.tidy kstr
  have hsz := Maps.size_put (k := .string s.data.toList) ht (.lit (.int .i64 (encP (some g))))
  rw [(h3 s hs).2, h2] at hsz
  refine ⟨w', hrun, ⟨D.put (.string s.data.toList) (.lit (.int .i64 (encP (some g)))), ?_, hsz, fun t htl => ?_⟩, h5⟩
  · obtain ⟨es, clock, e1, e2, e3, e4⟩ := h4
    refine ⟨es, clock, e1, e2, ?_, e4⟩
    have e5 : Maps.size (D.put (.string s.data.toList) (.lit (.int .i64 (encP (some g))))) = es.size := by rw [e4]; simp [Maps.size, length_sorted]
    rw [hsz] at e5
    omega
  · by_cases e : t = s
    · subst e
      rw [upd_same]
      exact ⟨Maps.atKey_put_same ht.isMap hk _ _, Maps.has_put_same ht.isMap hk _⟩
    · rw [upd_other _ _ e, Maps.atKey_put_other (ne_key e), Maps.has_put_other (ne_key e)]
      exact h3 t htl
theorem drop (h : MapIs w b F sz) (hs : s.size ≤ 9223372036854775807) (ty : TypeId) :
    ∃ w', (Builtin.delete_ #[47, 9] ty #[.map (some b), .string s]).run Try.prog w = .ok (.tuple #[]) w' ∧ MapIs w' b (upd F s none) (if (F s).isSome then sz - 1 else sz) ∧ w.grownBy w' (some b) := by
  obtain ⟨D, h1, h2, h3⟩ := h
  obtain ⟨w', hrun, h4, h5⟩ := h1.drop kstr Try.underlying47 (key hs) ty
  have ht := h1.tidy kstr
  have hsz := Maps.size_del (k := .string s.data.toList) ht
  rw [(h3 s hs).2, h2] at hsz
  refine ⟨w', hrun, ⟨D.del (.string s.data.toList), ?_, ?_, fun t htl => ?_⟩, h5.grown⟩
  · obtain ⟨es, clock, e1, e2, e3, e4⟩ := h4
    refine ⟨es, clock, e1, e2, ?_, e4⟩
    have e5 : Maps.size (D.del (.string s.data.toList)) = es.size := by rw [e4]; simp [Maps.size, length_sorted]
    split at hsz <;> simp_all <;> omega
  · split at hsz <;> simp_all
    omega
  · by_cases e : t = s
    · subst e
      rw [upd_same]
      exact ⟨Maps.atKey_del_same _, Maps.has_del_same⟩
    · rw [upd_other _ _ e, Maps.atKey_del_other (ne_key e), Maps.has_del_other (ne_key e)]
      exact h3 t htl
end MapIs
/-- 'm[k] = p' at the operation. -/
theorem wpList_put {ops : Array Oper} {rest : List Oper} {o : Oper} {a : Act} {Q : Exit → Act → World → Prop} (w : World) (hg : o.guard = none) (m x v : Operand) (hop : o.op = Op.mapUpdate 47 m x v)
    (b sz : Nat) (F : ByteArray → Option Nat) (hm : a.eval m = .map (some b)) (h : MapIs w b F sz) (s : ByteArray) (hs : s.size ≤ 9223372036854775807) (hn : sz < 9223372036854775807) (g : Nat) (hx : a.eval x = .string s) (hv : a.eval v = .pointer (some ⟨g, 0, none⟩))
    (hK : ∀ w', MapIs w' b (upd F s (some g)) (if (F s).isSome then sz else sz + 1) → w.grownBy w' (some b) → wpList Try.prog ops Q rest (a.put o.dst undef) w') : wpList Try.prog ops Q (o :: rest) a w := by
  refine wpList_plain hg fun K' hK' => ?_
  obtain ⟨w', hrun, r1, r2⟩ := h.put hs hn g
  unfold Oper.wp
  simp [execOp, hop, hm, hx, hv, hrun, Result.andThen]
  exact hK' _ _ (hK w' r1 r2)
end Go.Proofs.Ytbchokjhbjnfcaa
