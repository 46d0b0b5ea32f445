/- Chapter 16: boxes, stops and environments in memory; slices.Clone. -/
import Derived.Test.YtekkjieoikgpmaaBase4
import Derived.Test.YtekkjieoikgpmaaRows
import Derived.Lib.IndexLaws
import Derived.Lib.Bytealg
import Derived.Laws.Externs
import Derived.Deep.DeepCutAuto
import Derived.Deep.MidRow
set_option linter.unusedVariables false
set_option linter.unusedSimpArgs false
namespace Go.Proofs.Ytekkjieoikgpmaa
open Go.RowKit
set_option maxHeartbeats 800000

/-- A box of a row. -/
structure BoxT where
  f0 : Int
  f1 : Int
  f2 : Int
  f3 : Int
  f4 : ByteArray
  f5 : ByteArray
  f6 : List Int
/-- A tab stop. -/
structure StopT where
  at_ : Int
  kind : UInt8
/-- An environment. -/
structure EnvT where
  font : Int
  lastFont : Int
  size : Int
  lastSize : Int
  vs : Int
  ls : Int
  length : Int
  title : Int
  indent : Int
  temp : Int
  fill : Bool
  adjust : Bool
  hyphens : Bool
  ligs : Bool
  kerns : Bool
  mode : UInt8
  centre : Int
  under : Int
  cross : Int
  space : Int
  sentence : Int
  stops : List StopT
  every : Int
  tab : ByteArray
  leader : ByteArray
  margin : ByteArray
  colour : ByteArray
  lastColour : ByteArray
  marginAt : Int
  on : Bool
  next : Int
  nevery : Int
  nspace : Int
  nindent : Int
  nskip : Int
  row : List BoxT
  before : Int
  after : Int
  joined : Bool
  odd : Bool
def BoxT.cells (x : BoxT) (A : Option Addr) (c : Nat) : List Value := [.int .i64 x.f0, .int .i64 x.f1, .int .i64 x.f2, .int .i64 x.f3, .string x.f4, .string x.f5, .slice A x.f6.length c]
def StopT.cells (x : StopT) : List Value := [.int .i64 x.at_, .int .u8 (x.kind.toNat : Int)]
/-- The cells of an environment; u, v: its stops and its row. -/
def EnvT.cells (x : EnvT) (u v : Value) : List Value :=
  [.int .i64 x.font, .int .i64 x.lastFont, .int .i64 x.size, .int .i64 x.lastSize, .int .i64 x.vs, .int .i64 x.ls, .int .i64 x.length, .int .i64 x.title, .int .i64 x.indent, .int .i64 x.temp,
   .bool x.fill, .bool x.adjust, .bool x.hyphens, .bool x.ligs, .bool x.kerns, .int .u8 (x.mode.toNat : Int), .int .i64 x.centre, .int .i64 x.under, .int .i64 x.cross, .int .i64 x.space,
   .int .i64 x.sentence, u, .int .i64 x.every, .string x.tab, .string x.leader, .string x.margin, .string x.colour, .string x.lastColour, .int .i64 x.marginAt, .bool x.on,
   .int .i64 x.next, .int .i64 x.nevery, .int .i64 x.nspace, .int .i64 x.nindent, .int .i64 x.nskip, v, .int .i64 x.before, .int .i64 x.after, .bool x.joined, .bool x.odd]
def boxK : Kind BoxT where
  sz := 7
  K := fun w ok x cs => ∃ A c, cs = x.cells A c ∧ x.f6.length ≤ c ∧ c ≤ 9223372036854775807 ∧ Kind.int.Rd w ok A x.f6.length x.f6
  len := by
    rintro w ok x cs ⟨A, c, rfl, _⟩
    rfl
  one := by
    rintro w ok x cs ⟨A, c, rfl, _⟩ u hu
    simp only [BoxT.cells, List.mem_cons, List.not_mem_nil, or_false] at hu
    rcases hu with rfl | rfl | rfl | rfl | rfl | rfl | rfl <;> rfl
  weaken := by
    rintro w ok ok' x cs hok ⟨A, c, rfl, hl, hc, hr⟩
    exact ⟨A, c, rfl, hl, hc, hr.weaken hok⟩
  bound := by
    rintro w ok x cs ⟨A, c, rfl, hl, hc, hr⟩
    exact ⟨A, c, rfl, hl, hc, hr.bound⟩
  move := by
    rintro w w' ok x cs hm ⟨A, c, rfl, hl, hc, hr⟩
    exact ⟨A, c, rfl, hl, hc, hr.move hm⟩
def stopK : Kind StopT where
  sz := 2
  K := fun _ _ x cs => cs = x.cells
  len := fun h => by rw [h]; rfl
  one := fun h u hu => by
    rw [h] at hu
    simp only [StopT.cells, List.mem_cons, List.not_mem_nil, or_false] at hu
    rcases hu with rfl | rfl <;> rfl
  weaken := fun _ h => h
  bound := fun h => h
  move := fun _ h => h
/-- v is a slice that reads as l. -/
def Kind.Sl {α : Type} (d : Kind α) (w : World) (ok : Nat → Prop) (v : Value) (l : List α) : Prop := ∃ A c, v = .slice A l.length c ∧ l.length ≤ c ∧ c ≤ 9223372036854775807 ∧ d.Rd w ok A l.length l
namespace Kind
section
variable {α : Type} {d : Kind α} {w w' : World} {ok ok' : Nat → Prop} {v : Value} {l : List α}
theorem Sl.weaken (hok : ∀ k, ok k → ok' k) (h : d.Sl w ok v l) : d.Sl w ok' v l := by
  obtain ⟨A, c, rfl, hl, hc, hr⟩ := h
  exact ⟨A, c, rfl, hl, hc, hr.weaken hok⟩
theorem Sl.bound (h : d.Sl w ok v l) : d.Sl w (fun k => ok k ∧ k < w.heap.size) v l := by
  obtain ⟨A, c, rfl, hl, hc, hr⟩ := h
  exact ⟨A, c, rfl, hl, hc, hr.bound⟩
theorem Sl.move (hm : ∀ k, ok k → w'.heap[k]? = w.heap[k]?) (h : d.Sl w ok v l) : d.Sl w' ok v l := by
  obtain ⟨A, c, rfl, hl, hc, hr⟩ := h
  exact ⟨A, c, rfl, hl, hc, hr.move hm⟩
theorem Sl.step (h : d.Sl w ok v l) (hm : ∀ k, ok k → k < w.heap.size → w'.heap[k]? = w.heap[k]?) : d.Sl w' ok v l := Sl.weaken (fun _ hk => hk.1) (Sl.move (fun k hk => hm k hk.1 hk.2) h.bound)
theorem Sl.below (h : d.Sl w ok v l) (hb : Below w.heap.size w w') : d.Sl w' ok v l := h.step fun k _ hk => hb.block k hk
theorem Sl.nil (d : Kind α) (w : World) (ok : Nat → Prop) : d.Sl w ok (.slice none 0 0) [] := ⟨none, 0, rfl, Nat.le_refl _, Nat.zero_le _, Rd.nil _ _ _ _⟩
theorem Sl.one (h : d.Sl w ok v l) : v.oneCell' = true := by
  obtain ⟨A, c, rfl, -⟩ := h
  rfl
theorem Own.sl {e : TypeId} {base : Nat} (h : d.Own e w ok base v l) : d.Sl w (fun k => ok k ∨ base ≤ k) v l := by
  have hlt := h.lt
  obtain ⟨A, c, rfl, h1, h2, -, -, h3⟩ := h.form
  exact ⟨A, c, rfl, h1, h2, h3.weaken fun k hk => hk.imp id fun h => (hlt k h).1⟩
end
end Kind
def envK : Kind EnvT where
  sz := 40
  K := fun w ok x cs => ∃ u v, cs = x.cells u v ∧ stopK.Sl w ok u x.stops ∧ boxK.Sl w ok v x.row
  len := by
    rintro w ok x cs ⟨u, v, rfl, _⟩
    rfl
  one := by
    rintro w ok x cs ⟨u, v, rfl, h1, h2⟩ y hy
    have g1 := h1.one
    have g2 := h2.one
    have hz : ∀ z ∈ x.cells u v, z.oneCell' = true := by
      simp only [EnvT.cells, List.forall_mem_cons]
      exact ⟨rfl, rfl, rfl, rfl, rfl, rfl, rfl, rfl, rfl, rfl, rfl, rfl, rfl, rfl, rfl, rfl, rfl, rfl, rfl, rfl, rfl, g1, rfl, rfl, rfl, rfl, rfl, rfl, rfl, rfl, rfl, rfl, rfl, rfl, rfl, g2, rfl, rfl, rfl, rfl, fun _ h => by cases h⟩
    exact hz y hy
  weaken := by
    rintro w ok ok' x cs hok ⟨u, v, rfl, h1, h2⟩
    exact ⟨u, v, rfl, h1.weaken hok, h2.weaken hok⟩
  bound := by
    rintro w ok x cs ⟨u, v, rfl, h1, h2⟩
    exact ⟨u, v, rfl, h1.bound, h2.bound⟩
  move := by
    rintro w w' ok x cs hm ⟨u, v, rfl, h1, h2⟩
    exact ⟨u, v, rfl, h1.move hm, h2.move hm⟩

theorem info_int : (Try.prog.info? 3).map (fun i => (i.zero, i.size, i.bytes)) = some (some (.int .i64 0), 1, 8) := by kernel_rfl
theorem info_box : (Try.prog.info? 86).map (fun i => (i.zero, i.size, i.bytes)) = some (some (.agg #[.int .i64 0, .int .i64 0, .int .i64 0, .int .i64 0, .string ⟨#[]⟩, .string ⟨#[]⟩, .slice none 0 0]), 7, 88) := by kernel_rfl
theorem info_stop : (Try.prog.info? 100).map (fun i => (i.zero, i.size, i.bytes)) = some (some (.agg #[.int .i64 0, .int .u8 0]), 2, 16) := by kernel_rfl
theorem size_env : (Try.prog.info? 29).map (·.size) = some 40 := by kernel_rfl
/-- Sizes that memory bears. -/
def EnvT.small (x : EnvT) : Prop := x.stops.length ≤ 1000000000000 ∧ x.row.length ≤ 1000000000000 ∧ ∀ y ∈ x.row, y.f6.length ≤ 17592186044416

theorem Clone_int (A : Option Addr) (n c : Nat) (l : List Int) (ok : Nat → Prop) (w : World) (hr : Kind.int.Rd w ok A n l) (hn : n ≤ 17592186044416) :
    Calls Try.prog 80 #[.slice A n c] w fun e w' => ∃ v, e = .returned v ∧ Kind.int.Own 3 w' (fun k => ok k ∧ k < w.heap.size) w.heap.size v l ∧ Below w.heap.size w w' := by
  have HR := hide hr
  clear hr
  cases A with
  | none =>
    have heq := fun W => Lib.run_eql_slice_nil (P := Try.prog) W 54 3 none n c 0 0 Try.underlying54
    go_enter Try.func80, Try.ntmps80
    go_wp2_with fail
    go_ret
    have hl : l = [] := by
      rcases Nat.eq_zero_or_pos n with h0 | h0
      · exact List.eq_nil_of_length_eq_zero (by have := HR.out.1; omega)
      · obtain ⟨b, off, e, _⟩ := HR.out.2 h0
        cases e
    subst hl
    exact ⟨_, rfl, Kind.Own.nil _ _ _ _ _, Below.refl _ _⟩
  | some ad =>
    have heq := fun W => Lib.run_eql_slice_nil (P := Try.prog) W 54 3 (some ad) n c 0 0 Try.underlying54
    have hw0 : Below w.heap.size w (w.alloc (.cells #[] 3)) := (Below.refl _ _).alloc (Nat.le_refl _) _
    have HRD := hide (HR.out.bound.below hw0)
    have HOK := hide (show ∀ k, (ok k ∧ k < w.heap.size) → (Value.slice (some ⟨w.heap.size, 0, none⟩) 0 0).ownBlock ≠ some k from fun k hk e => by simp [Value.ownBlock] at e; omega)
    clear hw0
    go_enter Try.func80, Try.ntmps80
    go_wp2_with (at_builtin; refine wpList_append_rd (ok := fun k => ok k ∧ k < w.heap.size) (base := w.heap.size) (w.alloc (.cells #[] 3)) Kind.int rfl _ _ 54 rfl 3 _ 8 Try.underlying54 info_int rfl (by decide) (by decide) _ [] rfl ⟨[], World.ownsRow_made w #[] 0 (Nat.le_refl _) (Nat.zero_le _) rfl, Kind.Reps.nil _ _ _⟩ (some ad) n c l rfl HRD.out HOK.out (by simp; omega) (by simp) ?_; intro v1 w1 hown1 hg1 hat1)
    go_ret
    refine ⟨v1, rfl, by simpa using hown1, ?_⟩
    exact ((Below.refl _ _).alloc (Nat.le_refl _) _).grown hg1 (by simp) (fun k hk => by have h2 : w.heap.size = k := Option.some.inj hk; omega)

theorem Clone_box (A : Option Addr) (n c : Nat) (l : List BoxT) (ok : Nat → Prop) (w : World) (hr : boxK.Rd w ok A n l) (hn : n ≤ 1000000000000) :
    Calls Try.prog 79 #[.slice A n c] w fun e w' => ∃ v, e = .returned v ∧ boxK.Own 86 w' (fun k => ok k ∧ k < w.heap.size) w.heap.size v l ∧ Below w.heap.size w w' := by
  have HR := hide hr
  clear hr
  cases A with
  | none =>
    have heq := fun W => Lib.run_eql_slice_nil (P := Try.prog) W 27 86 none n c 0 0 Try.underlying27
    go_enter Try.func79, Try.ntmps79
    go_wp2_with fail
    go_ret
    have hl : l = [] := by
      rcases Nat.eq_zero_or_pos n with h0 | h0
      · exact List.eq_nil_of_length_eq_zero (by have := HR.out.1; omega)
      · obtain ⟨b, off, e, _⟩ := HR.out.2 h0
        cases e
    subst hl
    exact ⟨_, rfl, Kind.Own.nil _ _ _ _ _, Below.refl _ _⟩
  | some ad =>
    have heq := fun W => Lib.run_eql_slice_nil (P := Try.prog) W 27 86 (some ad) n c 0 0 Try.underlying27
    have hw0 : Below w.heap.size w (w.alloc (.cells #[] 86)) := (Below.refl _ _).alloc (Nat.le_refl _) _
    have HRD := hide (HR.out.bound.below hw0)
    have HOK := hide (show ∀ k, (ok k ∧ k < w.heap.size) → (Value.slice (some ⟨w.heap.size, 0, none⟩) 0 0).ownBlock ≠ some k from fun k hk e => by simp [Value.ownBlock] at e; omega)
    clear hw0
    go_enter Try.func79, Try.ntmps79
    go_wp2_with (at_builtin; refine wpList_append_rd (ok := fun k => ok k ∧ k < w.heap.size) (base := w.heap.size) (w.alloc (.cells #[] 86)) boxK rfl _ _ 27 rfl 86 _ 88 Try.underlying27 info_box rfl (by decide) (by decide) _ [] rfl ⟨[], World.ownsRow_made w #[] 0 (Nat.le_refl _) (Nat.zero_le _) rfl, Kind.Reps.nil _ _ _⟩ (some ad) n c l rfl HRD.out HOK.out (by simp; omega) (by simp) ?_; intro v1 w1 hown1 hg1 hat1)
    go_ret
    refine ⟨v1, rfl, by simpa using hown1, ?_⟩
    exact ((Below.refl _ _).alloc (Nat.le_refl _) _).grown hg1 (by simp) (fun k hk => by have h2 : w.heap.size = k := Option.some.inj hk; omega)

theorem Clone_stop (A : Option Addr) (n c : Nat) (l : List StopT) (ok : Nat → Prop) (w : World) (hr : stopK.Rd w ok A n l) (hn : n ≤ 1000000000000) :
    Calls Try.prog 78 #[.slice A n c] w fun e w' => ∃ v, e = .returned v ∧ stopK.Own 100 w' (fun k => ok k ∧ k < w.heap.size) w.heap.size v l ∧ Below w.heap.size w w' := by
  have HR := hide hr
  clear hr
  cases A with
  | none =>
    have heq := fun W => Lib.run_eql_slice_nil (P := Try.prog) W 22 100 none n c 0 0 Try.underlying22
    go_enter Try.func78, Try.ntmps78
    go_wp2_with fail
    go_ret
    have hl : l = [] := by
      rcases Nat.eq_zero_or_pos n with h0 | h0
      · exact List.eq_nil_of_length_eq_zero (by have := HR.out.1; omega)
      · obtain ⟨b, off, e, _⟩ := HR.out.2 h0
        cases e
    subst hl
    exact ⟨_, rfl, Kind.Own.nil _ _ _ _ _, Below.refl _ _⟩
  | some ad =>
    have heq := fun W => Lib.run_eql_slice_nil (P := Try.prog) W 22 100 (some ad) n c 0 0 Try.underlying22
    have hw0 : Below w.heap.size w (w.alloc (.cells #[] 100)) := (Below.refl _ _).alloc (Nat.le_refl _) _
    have HRD := hide (HR.out.bound.below hw0)
    have HOK := hide (show ∀ k, (ok k ∧ k < w.heap.size) → (Value.slice (some ⟨w.heap.size, 0, none⟩) 0 0).ownBlock ≠ some k from fun k hk e => by simp [Value.ownBlock] at e; omega)
    clear hw0
    go_enter Try.func78, Try.ntmps78
    go_wp2_with (at_builtin; refine wpList_append_rd (ok := fun k => ok k ∧ k < w.heap.size) (base := w.heap.size) (w.alloc (.cells #[] 100)) stopK rfl _ _ 22 rfl 100 _ 16 Try.underlying22 info_stop rfl (by decide) (by decide) _ [] rfl ⟨[], World.ownsRow_made w #[] 0 (Nat.le_refl _) (Nat.zero_le _) rfl, Kind.Reps.nil _ _ _⟩ (some ad) n c l rfl HRD.out HOK.out (by simp; omega) (by simp) ?_; intro v1 w1 hown1 hg1 hat1)
    go_ret
    refine ⟨v1, rfl, by simpa using hown1, ?_⟩
    exact ((Below.refl _ _).alloc (Nat.le_refl _) _).grown hg1 (by simp) (fun k hk => by have h2 : w.heap.size = k := Option.some.inj hk; omega)

end Go.Proofs.Ytekkjieoikgpmaa
