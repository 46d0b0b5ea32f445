/- env.plain: what of an environment can be compared at once; how it compares. -/
import Derived.Test.YtekkjieoikgpmaaE18
import Derived.ChangeKeysEq
set_option linter.unusedVariables false
set_option linter.unusedSimpArgs false
namespace Go.Proofs.Ytekkjieoikgpmaa
open Go.RowKit
set_option maxHeartbeats 3200000
set_option maxRecDepth 1000000

def plainCs (x : EnvT) : List Value := [.int .i64 x.font, .int .i64 x.lastFont, .int .i64 x.size, .int .i64 x.lastSize, .int .i64 x.vs, .int .i64 x.ls, .int .i64 x.length, .int .i64 x.title, .int .i64 x.indent, .int .i64 x.temp, .int .i64 x.centre, .int .i64 x.under, .int .i64 x.cross, .int .i64 x.space, .int .i64 x.sentence, .int .i64 x.marginAt, .int .i64 x.before, .int .i64 x.after, .bool x.fill, .bool x.adjust, .bool x.hyphens, .bool x.ligs, .bool x.kerns, .bool x.joined, .bool x.odd, .int .u8 (x.mode.toNat : Int), .string x.tab, .string x.leader, .string x.margin, .string x.colour, .string x.lastColour, .bool x.on, .int .i64 x.next, .int .i64 x.nevery, .int .i64 x.nspace, .int .i64 x.nindent, .int .i64 x.nskip]
def intsOf (x : EnvT) : List Int := [x.font, x.lastFont, x.size, x.lastSize, x.vs, x.ls, x.length, x.title, x.indent, x.temp, x.centre, x.under, x.cross, x.space, x.sentence, x.marginAt, x.before, x.after]
def flagsOf (x : EnvT) : List Bool := [x.fill, x.adjust, x.hyphens, x.ligs, x.kerns, x.joined, x.odd]
def textsOf (x : EnvT) : List ByteArray := [x.tab, x.leader, x.margin, x.colour, x.lastColour]
def numsOf (x : EnvT) : List Int := [x.next, x.nevery, x.nspace, x.nindent, x.nskip]
/-- Equal, element by element. -/
def all2 {α : Type} (f : α → α → Bool) : List α → List α → Bool
  | [], [] => true
  | a :: r, b :: s => f a b && all2 f r s
  | _, _ => false
def plainB (x y : EnvT) : Bool := all2 (· == ·) (intsOf x) (intsOf y) && (all2 (· == ·) (flagsOf x) (flagsOf y) && (((x.mode.toNat : Int) == (y.mode.toNat : Int)) && (all2 (fun a b => a.toList == b.toList) (textsOf x) (textsOf y) && ((x.on == y.on) && all2 (· == ·) (numsOf x) (numsOf y)))))
theorem size_bare : (Try.prog.info? 96).map (·.size) = some 37 := by kernel_rfl
theorem plain_one (x : EnvT) : (plainCs x).toArray.all (·.oneCell') = true := by
  refine all_oneCell_toArray ?_
  simp only [plainCs, List.forall_mem_cons]
  exact ⟨rfl, rfl, rfl, rfl, rfl, rfl, rfl, rfl, rfl, rfl, rfl, rfl, rfl, rfl, rfl, rfl, rfl, rfl, rfl, rfl, rfl, rfl, rfl, rfl, rfl, rfl, rfl, rfl, rfl, rfl, rfl, rfl, rfl, rfl, rfl, rfl, rfl, fun _ h => by cases h⟩
section
variable {P : Program} {w : World}
/-- Items of an array, one cell each, compared one by one. -/
theorem items_run {α : Type} (enc : α → Value) (f : α → α → Bool) (d : Nat) (e : TypeId) (he : P.plainKey e = true) (heq : ∀ a b, (Op.equalIn d e (enc a) (enc b)).run P w = .ok (f a b) w) : ∀ (l m p q : List α), p.length = q.length → l.length = m.length →
    (Op.eqItems d e 1 ((p ++ l).map enc).toArray ((q ++ m).map enc).toArray (List.range' p.length l.length)).run P w = .ok (all2 f l m) w
  | [], [], p, q, _, _ => by simp [Op.eqItems, all2]
  | a :: l, b :: m, p, q, hpq, hl => by
    have ih := items_run enc f d e he heq l m (p ++ [a]) (q ++ [b]) (by simp [hpq]) (by simpa using hl)
    simp only [List.append_assoc, List.singleton_append, List.length_append, List.length_singleton] at ih
    have h1 : (part e ((p ++ a :: l).map enc).toArray p.length).run P w = .ok (enc a) w := run_part_plain w he (by simp)
    have h2 : (part e ((q ++ b :: m).map enc).toArray p.length).run P w = .ok (enc b) w := run_part_plain w he (by rw [hpq]; simp)
    rw [List.length_cons, List.range'_succ]
    simp only [Op.eqItems, Sem.run_bind, Nat.mul_one, h1, h2, heq, Result.andThen_ok, all2]
    cases f a b
    · simp
    · simpa using ih
  | [], _ :: _, _, _, _, h => by simp at h
  | _ :: _, [], _, _, _, h => by simp at h
theorem fields_run (d : Nat) (xs ys : Array Value) : ∀ (fs : List (Field × Value × Value × Bool)), (∀ f ∈ fs, f.1.name ≠ "_" ∧ (part f.1.type xs f.1.offset).run P w = .ok f.2.1 w ∧ (part f.1.type ys f.1.offset).run P w = .ok f.2.2.1 w ∧ (Op.equalIn d f.1.type f.2.1 f.2.2.1).run P w = .ok f.2.2.2 w) →
    (Op.eqFields d xs ys (fs.map (·.1))).run P w = .ok (fs.all (·.2.2.2)) w
  | [], _ => by simp [Op.eqFields]
  | f :: fs, h => by
    obtain ⟨h0, h1, h2, h3⟩ := h f (by simp)
    have ih := fields_run d xs ys fs (fun g hg => h g (by simp [hg]))
    simp only [List.map_cons, Op.eqFields, ne_eq, h0, not_false_eq_true, if_true, Sem.run_bind, h1, h2, h3, Result.andThen_ok, List.all_cons]
    cases f.2.2.2
    · simp
    · simpa using ih
end
theorem eq_ints (d n : Nat) (t : TypeId) (w : World) (hu : Try.prog.underlying t = some (.array n 3)) (l m : List Int) (hl : l.length = n) (hm : m.length = n) :
    (Op.equalIn (d + 2) t (.agg (l.map (Value.int .i64)).toArray) (.agg (m.map (Value.int .i64)).toArray)).run Try.prog w = .ok (all2 (· == ·) l m) w := by
  obtain ⟨i, hi, -⟩ := Option.map_eq_some_iff.1 info_int
  have := items_run (P := Try.prog) (w := w) (Value.int .i64) (· == ·) (d + 1) 3 (by kernel_rfl) (fun a b => run_equalIn_int w d 3 .i64 .i64 a b Try.underlying3) l m [] [] rfl (by rw [hl, hm])
  rw [run_equalIn_array w (d + 1) _ _ hu hi, List.range_eq_range', show Try.prog.cellsOf 3 = 1 by kernel_rfl]
  rw [hl] at this
  exact this
theorem eq_flags (d n : Nat) (t : TypeId) (w : World) (hu : Try.prog.underlying t = some (.array n 4)) (l m : List Bool) (hl : l.length = n) (hm : m.length = n) :
    (Op.equalIn (d + 2) t (.agg (l.map Value.bool).toArray) (.agg (m.map Value.bool).toArray)).run Try.prog w = .ok (all2 (· == ·) l m) w := by
  obtain ⟨i, hi, -⟩ := Option.map_eq_some_iff.1 (show (Try.prog.info? 4).map (·.size) = some 1 by kernel_rfl)
  have := items_run (P := Try.prog) (w := w) Value.bool (· == ·) (d + 1) 4 (by kernel_rfl) (fun a b => run_equalIn_bool w d 4 a b Try.underlying4) l m [] [] rfl (by rw [hl, hm])
  rw [run_equalIn_array w (d + 1) _ _ hu hi, List.range_eq_range', show Try.prog.cellsOf 4 = 1 by kernel_rfl]
  rw [hl] at this
  exact this
theorem eq_texts (d n : Nat) (t : TypeId) (w : World) (hu : Try.prog.underlying t = some (.array n 9)) (l m : List ByteArray) (hl : l.length = n) (hm : m.length = n) :
    (Op.equalIn (d + 2) t (.agg (l.map Value.string).toArray) (.agg (m.map Value.string).toArray)).run Try.prog w = .ok (all2 (fun a b => a.toList == b.toList) l m) w := by
  obtain ⟨i, hi, -⟩ := Option.map_eq_some_iff.1 (show (Try.prog.info? 9).map (·.size) = some 1 by kernel_rfl)
  have := items_run (P := Try.prog) (w := w) Value.string (fun a b => a.toList == b.toList) (d + 1) 9 (by kernel_rfl) (fun a b => run_equalIn_string w d 9 a b Try.underlying9) l m [] [] rfl (by rw [hl, hm])
  rw [run_equalIn_array w (d + 1) _ _ hu hi, List.range_eq_range', show Try.prog.cellsOf 9 = 1 by kernel_rfl]
  rw [hl] at this
  exact this
def numCs (x : EnvT) : Array Value := #[.bool x.on, .int .i64 x.next, .int .i64 x.nevery, .int .i64 x.nspace, .int .i64 x.nindent, .int .i64 x.nskip]
theorem eq_nums (d : Nat) (x y : EnvT) (w : World) : (Op.equalIn (d + 2) 26 (.agg (numCs x)) (.agg (numCs y))).run Try.prog w = .ok ((x.on == y.on) && all2 (· == ·) (numsOf x) (numsOf y)) w := by
  have hi := fun (a b : Int) => run_equalIn_int (P := Try.prog) w d 3 .i64 .i64 a b Try.underlying3
  have hb := fun (a b : Bool) => run_equalIn_bool (P := Try.prog) w d 4 a b Try.underlying4
  have hp : Try.prog.stoodInHeld 26 = false := by kernel_rfl
  have ki : Try.prog.plainKey 3 = true := by kernel_rfl
  have kb : Try.prog.plainKey 4 = true := by kernel_rfl
  rw [run_equalIn_struct w (d + 1) _ _ _ (by kernel_rfl) hp]
  have := fields_run (P := Try.prog) (w := w) (d + 1) (numCs x) (numCs y) [(((Try.prog.fieldsOf 26).toList.getD 0 default), .bool x.on, .bool y.on, x.on == y.on), (((Try.prog.fieldsOf 26).toList.getD 1 default), .int .i64 x.next, .int .i64 y.next, x.next == y.next), (((Try.prog.fieldsOf 26).toList.getD 2 default), .int .i64 x.nevery, .int .i64 y.nevery, x.nevery == y.nevery),
    (((Try.prog.fieldsOf 26).toList.getD 3 default), .int .i64 x.nspace, .int .i64 y.nspace, x.nspace == y.nspace), (((Try.prog.fieldsOf 26).toList.getD 4 default), .int .i64 x.nindent, .int .i64 y.nindent, x.nindent == y.nindent), (((Try.prog.fieldsOf 26).toList.getD 5 default), .int .i64 x.nskip, .int .i64 y.nskip, x.nskip == y.nskip)] (by
      simp only [List.forall_mem_cons]
      exact ⟨⟨by decide, run_part_plain w kb rfl, run_part_plain w kb rfl, hb _ _⟩, ⟨by decide, run_part_plain w ki rfl, run_part_plain w ki rfl, hi _ _⟩, ⟨by decide, run_part_plain w ki rfl, run_part_plain w ki rfl, hi _ _⟩, ⟨by decide, run_part_plain w ki rfl, run_part_plain w ki rfl, hi _ _⟩,
        ⟨by decide, run_part_plain w ki rfl, run_part_plain w ki rfl, hi _ _⟩, ⟨by decide, run_part_plain w ki rfl, run_part_plain w ki rfl, hi _ _⟩, fun _ h => by cases h⟩)
  rw [show (Try.prog.fieldsOf 26).toList = _ from (by kernel_rfl : (Try.prog.fieldsOf 26).toList = [((Try.prog.fieldsOf 26).toList.getD 0 default), ((Try.prog.fieldsOf 26).toList.getD 1 default), ((Try.prog.fieldsOf 26).toList.getD 2 default), ((Try.prog.fieldsOf 26).toList.getD 3 default), ((Try.prog.fieldsOf 26).toList.getD 4 default), ((Try.prog.fieldsOf 26).toList.getD 5 default)])]
  refine this.trans ?_
  rfl
theorem eql_bare (x y : EnvT) (w : World) : (binOp .eql 96 (.agg (plainCs x).toArray) (.agg (plainCs y).toArray)).run Try.prog w = .ok (.bool (plainB x y)) w := by
  have hp : Try.prog.stoodInHeld 96 = false := by kernel_rfl
  have h0 := eq_ints 9997 18 92 w Try.underlying92 (intsOf x) (intsOf y) rfl rfl
  have h1 := eq_flags 9997 7 93 w Try.underlying93 (flagsOf x) (flagsOf y) rfl rfl
  have h2 := run_equalIn_int (P := Try.prog) w 9998 5 .u8 .u8 (x.mode.toNat : Int) (y.mode.toNat : Int) Try.underlying5
  have h3 := eq_texts 9997 5 94 w Try.underlying94 (textsOf x) (textsOf y) rfl rfl
  have h4 := eq_nums 9997 x y w
  have hr := run_equalIn_struct (P := Try.prog) w 9999 96 (plainCs x).toArray (plainCs y).toArray (by kernel_rfl) hp
  have := fields_run (P := Try.prog) (w := w) 9999 (plainCs x).toArray (plainCs y).toArray [(((Try.prog.fieldsOf 96).toList.getD 0 default), _, _, _), (((Try.prog.fieldsOf 96).toList.getD 1 default), _, _, _), (((Try.prog.fieldsOf 96).toList.getD 2 default), _, _, _), (((Try.prog.fieldsOf 96).toList.getD 3 default), _, _, _), (((Try.prog.fieldsOf 96).toList.getD 4 default), _, _, _)] (by
      simp only [List.forall_mem_cons]
      exact ⟨⟨by decide, by kernel_rfl, by kernel_rfl, h0⟩, ⟨by decide, by kernel_rfl, by kernel_rfl, h1⟩, ⟨by decide, by kernel_rfl, by kernel_rfl, h2⟩, ⟨by decide, by kernel_rfl, by kernel_rfl, h3⟩, ⟨by decide, by kernel_rfl, by kernel_rfl, h4⟩, fun _ h => by cases h⟩)
  rw [(by kernel_rfl : (Try.prog.fieldsOf 96).toList = [((Try.prog.fieldsOf 96).toList.getD 0 default), ((Try.prog.fieldsOf 96).toList.getD 1 default), ((Try.prog.fieldsOf 96).toList.getD 2 default), ((Try.prog.fieldsOf 96).toList.getD 3 default), ((Try.prog.fieldsOf 96).toList.getD 4 default)])] at hr
  have hq : (Op.equalIn 10000 96 (.agg (plainCs x).toArray) (.agg (plainCs y).toArray)).run Try.prog w = .ok (plainB x y) w := by
    refine (hr.trans this).trans ?_
    show Result.ok (_ && (_ && (_ && (_ && (_ && true))))) w = _
    rw [Bool.and_true]
    rfl
  simp only [binOp]
  simp [Op.equal, Op.maxDepth, hq]
end Go.Proofs.Ytekkjieoikgpmaa
