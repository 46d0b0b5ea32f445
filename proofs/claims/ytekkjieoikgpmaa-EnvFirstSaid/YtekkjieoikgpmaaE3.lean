/- The environments' map of names: what it is as a function of the names; its laws. -/
import Derived.Test.YtekkjieoikgpmaaE2
import Derived.Maps.OwnSet
import Derived.Maps.OwnOps
import Derived.StringKeys
set_option linter.unusedVariables false
set_option linter.unusedSimpArgs false
namespace Go.Proofs.Ytekkjieoikgpmaa
open Go.RowKit
set_option maxHeartbeats 800000
set_option maxRecDepth 1000000

/-- A value reads as itself. -/
def vElem (v : Value) : Option (DataW Value × List MemPlace) := some (.held v, [])
def zeroT : EnvT := ⟨0, 0, 0, 0, 0, 0, 0, 0, 0, 0, false, false, false, false, false, 0, 0, 0, 0, 0, 0, [], 0, ⟨#[]⟩, ⟨#[]⟩, ⟨#[]⟩, ⟨#[]⟩, ⟨#[]⟩, 0, false, 0, 0, 0, 0, 0, [], 0, 0, false, false⟩
def zeroV : Value := .agg (zeroT.cells (.slice none 0 0) (.slice none 0 0)).toArray
theorem kstr : Maps.Keyed Try.prog 9 := Maps.string_keyed Try.underlying9
theorem zero_env (w : World) : (zeroValue 29).run Try.prog w = .ok zeroV w := by kernel_rfl
def upd (F : ByteArray → Option Value) (s : ByteArray) (o : Option Value) : ByteArray → Option Value := fun t => if t = s then o else F t
theorem upd_same (F : ByteArray → Option Value) (s : ByteArray) (o : Option Value) : upd F s o s = o := by unfold upd; rw [if_pos rfl]
theorem upd_other (F : ByteArray → Option Value) {s t : ByteArray} (o : Option Value) (h : t ≠ s) : upd F s o t = F t := by unfold upd; rw [if_neg h]
/-- Block b is a map of sz names that leads as F says. -/
def MapV (w : World) (b : Nat) (F : ByteArray → Option Value) (sz : Nat) : Prop :=
  ∃ D : DataW Value, w.ownsMap Try.prog 9 vElem b sz D ∧ Maps.size D = sz ∧ ∀ s : ByteArray, s.size ≤ 9223372036854775807 →
    D.atKey (.string s.data.toList) (.held zeroV) = .held ((F s).getD zeroV) ∧ Maps.has D (.string s.data.toList) = (F s).isSome
namespace MapV
variable {w w' : World} {b sz : Nat} {F : ByteArray → Option Value} {s : ByteArray}
theorem key (hs : s.size ≤ 9223372036854775807) : keyOf Try.prog 9 (.string s) = some (.string s.data.toList) := WideMaps.keyOf_string_mk Try.underlying9 hs
theorem ne_key {s t : ByteArray} (h : t ≠ s) : (Lit.string t.data.toList) ≠ .string s.data.toList := fun e => h (by
  injection e with e
  exact WideShapes.bytes_inj e)
theorem made (w : World) : MapV (w.alloc (.map #[] 0)) w.heap.size (fun _ => none) 0 := ⟨_, World.ownsMap_made w Try.prog 9 vElem, rfl, fun s _ => ⟨rfl, rfl⟩⟩
theorem lt (h : MapV w b F sz) : b < w.heap.size := by
  obtain ⟨D, h1, _⟩ := h
  exact h1.lt
theorem step (h : MapV w b F sz) (hb : w'.heap[b]? = w.heap[b]?) : MapV w' b F sz := by
  obtain ⟨D, ⟨es, clock, h1, h2⟩, h3⟩ := h
  exact ⟨D, ⟨es, clock, hb.trans h1, h2⟩, h3⟩
theorem below (h : MapV w b F sz) (hb : Below w.heap.size w w') : MapV w' b F sz := h.step (hb.block b h.lt)
theorem block (h : MapV w b F sz) : ∃ es clock, w.heap[b]? = some (.map es clock) := by
  obtain ⟨D, ⟨es, clock, h1, h2⟩, h3⟩ := h
  exact ⟨es, clock, h1⟩
theorem held_inv {v u : Value} {ps : List MemPlace} (h : vElem v = some (.held u, ps)) : v = u := by
  unfold vElem at h
  injection h with h
  injection h with h _
  injection h
theorem look (h : MapV w b F sz) (hs : s.size ≤ 9223372036854775807) : (Instr.lookup 65 (.map (some b)) (.string s) false).run Try.prog w = .ok ((F s).getD zeroV) w := by
  obtain ⟨D, h1, h2, h3⟩ := h
  obtain ⟨v, ps, hrun, hv⟩ := h1.lookup kstr Try.underlying65 (zero_env w) (zp := []) (zd := .held zeroV) rfl (key hs)
  rw [(h3 s hs).1] at hv
  rw [hrun, held_inv hv]
theorem look_ok (h : MapV w b F sz) (hs : s.size ≤ 9223372036854775807) : (Instr.lookup 65 (.map (some b)) (.string s) true).run Try.prog w = .ok (.tuple #[(F s).getD zeroV, .bool (F s).isSome]) w := by
  obtain ⟨D, h1, h2, h3⟩ := h
  obtain ⟨v, ps, hrun, hv⟩ := h1.look_ok kstr Try.underlying65 (zero_env w) (zp := []) (zd := .held zeroV) rfl (key hs)
  rw [(h3 s hs).1] at hv
  rw [hrun, held_inv hv, (h3 s hs).2]
theorem len (h : MapV w b F sz) (ty : TypeId) : (Builtin.len_ #[65] ty #[.map (some b)]).run Try.prog w = .ok (.int .i64 sz) w := by
  obtain ⟨D, h1, h2, h3⟩ := h
  rw [h1.len Try.underlying65 ty, h2]
theorem put (h : MapV w b F sz) (hs : s.size ≤ 9223372036854775807) (hn : sz < 9223372036854775807) (u : Value) :
    ∃ w', (Instr.mapUpdate 65 (.map (some b)) (.string s) u).run Try.prog w = .ok () w' ∧ MapV w' b (upd F s (some u)) (if (F s).isSome then sz else sz + 1) ∧ w.grownBy w' (some b) := by
  obtain ⟨D, h1, h2, h3⟩ := h
  have hm : maxLen = 9223372036854775807 := rfl
  obtain ⟨w', hrun, h4, h5⟩ := h1.update kstr Try.underlying65 (by omega) (key hs) (val := u) (ps := []) (d := .held u) rfl
  have hk : WideAt.IsKeyLit (.string s.data.toList) := kstr.key (key hs)
  have ht := h1.tidy kstr
  have hsz := Maps.size_put (k := .string s.data.toList) ht (.held u)
  rw [(h3 s hs).2, h2] at hsz
  refine ⟨w', hrun, ⟨D.put (.string s.data.toList) (.held u), ?_, hsz, fun t htl => ?_⟩, h5⟩
  · obtain ⟨es, clock, e1, e2, e3, e4⟩ := h4
    refine ⟨es, clock, e1, e2, ?_, e4⟩
    have e5 : Maps.size (D.put (.string s.data.toList) (.held u)) = es.size := by rw [e4]; simp [Maps.size, length_sorted]
    rw [hsz] at e5
    omega
  · by_cases e : t = s
    · subst e
      rw [upd_same]
      exact ⟨Maps.atKey_put_same ht.isMap hk _ _, Maps.has_put_same ht.isMap hk _⟩
    · rw [upd_other _ _ e, Maps.atKey_put_other (ne_key e), Maps.has_put_other (ne_key e)]
      exact h3 t htl
end MapV
/-- 'm[k] = v' at the operation. -/
theorem wpList_put {ops : Array Oper} {rest : List Oper} {o : Oper} {a : Act} {Q : Exit → Act → World → Prop} (w : World) (hg : o.guard = none) (m x v : Operand) (hop : o.op = Op.mapUpdate 65 m x v)
    (b sz : Nat) (F : ByteArray → Option Value) (hm : a.eval m = .map (some b)) (h : MapV w b F sz) (s : ByteArray) (hs : s.size ≤ 9223372036854775807) (hn : sz < 9223372036854775807) (u : Value) (hx : a.eval x = .string s) (hv : a.eval v = u)
    (hK : ∀ w', MapV w' b (upd F s (some u)) (if (F s).isSome then sz else sz + 1) → w.grownBy w' (some b) → wpList Try.prog ops Q rest (a.put o.dst undef) w') : wpList Try.prog ops Q (o :: rest) a w := by
  refine wpList_plain hg fun K' hK' => ?_
  obtain ⟨w', hrun, r1, r2⟩ := h.put hs hn u
  unfold Oper.wp
  simp [execOp, hop, hm, hx, hv, hrun, Result.andThen]
  exact hK' _ _ (hK w' r1 r2)
theorem eql_map (w : World) (o : Option Nat) : (binOp .eql 65 (.map o) (.map none)).run Try.prog w = .ok (.bool o.isNone) w := by
  have h : ∀ d : Nat, (Op.equalIn (d + 1) 65 (.map o) (.map none)).run Try.prog w = .ok o.isNone w := fun d => by
    cases o <;> simp [Op.equalIn, run_underlying Try.underlying65]
  simp only [binOp]
  simp [Op.equal, Op.maxDepth, h 9999]
end Go.Proofs.Ytekkjieoikgpmaa
