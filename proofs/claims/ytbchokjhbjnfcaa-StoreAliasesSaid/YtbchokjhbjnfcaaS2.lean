/- Lines and boxes in memory; slices.Clone of lines, boxes and numbers. -/
import Derived.Test.YtbchokjhbjnfcaaS1
set_option linter.unusedVariables false
set_option linter.unusedSimpArgs false
namespace Go.Proofs.Ytbchokjhbjnfcaa
open Go.RowKit
set_option maxHeartbeats 800000

/-- A box of a line. -/
structure BoxT where
  kind : Int
  width : Int
  font : Int
  size : Int
  name : ByteArray
  colour : ByteArray
  ns : List Int
/-- A line. -/
structure LineT where
  text : ByteArray
  made : Bool
  up : Int
  down : Int
  boxes : List BoxT
def BoxT.cells (x : BoxT) (A : Option Addr) (c : Nat) : List Value := [.int .i64 x.kind, .int .i64 x.width, .int .i64 x.font, .int .i64 x.size, .string x.name, .string x.colour, .slice A x.ns.length c]
def LineT.cells (x : LineT) (A : Option Addr) (c : Nat) : List Value := [.string x.text, .bool x.made, .int .i64 x.up, .int .i64 x.down, .slice A x.boxes.length c]
def boxK : Kind BoxT where
  sz := 7
  K := fun w ok x cs => ∃ A c, cs = x.cells A c ∧ x.ns.length ≤ c ∧ c ≤ 9223372036854775807 ∧ Kind.int.Rd w ok A x.ns.length x.ns
  len := by
    rintro w ok x cs ⟨A, c, rfl, _⟩
    rfl
  one := by
    rintro w ok x cs ⟨A, c, rfl, _⟩ u hu
    simp only [BoxT.cells, List.mem_cons, List.not_mem_nil, or_false] at hu
    rcases hu with rfl | rfl | rfl | rfl | rfl | rfl | rfl <;> rfl
  weaken := by
    rintro w ok ok' x cs hok ⟨A, c, rfl, hl, hc, hr⟩
    exact ⟨A, c, rfl, hl, hc, hr.weaken hok⟩
  bound := by
    rintro w ok x cs ⟨A, c, rfl, hl, hc, hr⟩
    exact ⟨A, c, rfl, hl, hc, hr.bound⟩
  move := by
    rintro w w' ok x cs hm ⟨A, c, rfl, hl, hc, hr⟩
    exact ⟨A, c, rfl, hl, hc, hr.move hm⟩
def lineK : Kind LineT where
  sz := 5
  K := fun w ok x cs => ∃ A c, cs = x.cells A c ∧ x.text.size ≤ 9223372036854775807 ∧ x.boxes.length ≤ c ∧ c ≤ 9223372036854775807 ∧ boxK.Rd w ok A x.boxes.length x.boxes
  len := by
    rintro w ok x cs ⟨A, c, rfl, _⟩
    rfl
  one := by
    rintro w ok x cs ⟨A, c, rfl, _⟩ u hu
    simp only [LineT.cells, List.mem_cons, List.not_mem_nil, or_false] at hu
    rcases hu with rfl | rfl | rfl | rfl | rfl <;> rfl
  weaken := by
    rintro w ok ok' x cs hok ⟨A, c, rfl, ht, hl, hc, hr⟩
    exact ⟨A, c, rfl, ht, hl, hc, hr.weaken hok⟩
  bound := by
    rintro w ok x cs ⟨A, c, rfl, ht, hl, hc, hr⟩
    exact ⟨A, c, rfl, ht, hl, hc, hr.bound⟩
  move := by
    rintro w w' ok x cs hm ⟨A, c, rfl, ht, hl, hc, hr⟩
    exact ⟨A, c, rfl, ht, hl, hc, hr.move hm⟩

theorem info_int : (Try.prog.info? 3).map (fun i => (i.zero, i.size, i.bytes)) = some (some (.int .i64 0), 1, 8) := by kernel_rfl
theorem info_box : (Try.prog.info? 76).map (fun i => (i.zero, i.size, i.bytes)) = some (some (.agg #[.int .i64 0, .int .i64 0, .int .i64 0, .int .i64 0, .string ⟨#[]⟩, .string ⟨#[]⟩, .slice none 0 0]), 7, 88) := by kernel_rfl
theorem info_line : (Try.prog.info? 61).map (fun i => (i.zero, i.size, i.bytes)) = some (some (.agg #[.string ⟨#[]⟩, .bool false, .int .i64 0, .int .i64 0, .slice none 0 0]), 5, 64) := by kernel_rfl

theorem Clone_int (A : Option Addr) (n c : Nat) (l : List Int) (ok : Nat → Prop) (w : World) (hr : Kind.int.Rd w ok A n l) (hn : n ≤ 17592186044416) :
    Calls Try.prog 56 #[.slice A n c] w fun e w' => ∃ v, e = .returned v ∧ Kind.int.Own 3 w' (fun k => ok k ∧ k < w.heap.size) w.heap.size v l ∧ Below w.heap.size w w' := by
  have HR := hide hr
  clear hr
  cases A with
  | none =>
    have heq := fun W => Lib.run_eql_slice_nil (P := Try.prog) W 74 3 none n c 0 0 Try.underlying74
    go_enter Try.func56, Try.ntmps56
    go_wp2_with fail
    go_ret
    have hl : l = [] := by
      rcases Nat.eq_zero_or_pos n with h0 | h0
      · exact List.eq_nil_of_length_eq_zero (by have := HR.out.1; omega)
      · obtain ⟨b, off, e, _⟩ := HR.out.2 h0
        cases e
    subst hl
    exact ⟨_, rfl, Kind.Own.nil _ _ _ _ _, Below.refl _ _⟩
  | some ad =>
    have heq := fun W => Lib.run_eql_slice_nil (P := Try.prog) W 74 3 (some ad) n c 0 0 Try.underlying74
    have hw0 : Below w.heap.size w (w.alloc (.cells #[] 3)) := (Below.refl _ _).alloc (Nat.le_refl _) _
    have HRD := hide (HR.out.bound.below hw0)
    have HOK := hide (show ∀ k, (ok k ∧ k < w.heap.size) → (Value.slice (some ⟨w.heap.size, 0, none⟩) 0 0).ownBlock ≠ some k from fun k hk e => by simp [Value.ownBlock] at e; omega)
    clear hw0
    go_enter Try.func56, Try.ntmps56
    go_wp2_with (at_builtin; refine wpList_append_rd (ok := fun k => ok k ∧ k < w.heap.size) (base := w.heap.size) (w.alloc (.cells #[] 3)) Kind.int rfl _ _ 74 rfl 3 _ 8 Try.underlying74 info_int rfl (by decide) (by decide) _ [] rfl ⟨[], World.ownsRow_made w #[] 0 (Nat.le_refl _) (Nat.zero_le _) rfl, Kind.Reps.nil _ _ _⟩ (some ad) n c l rfl HRD.out HOK.out (by simp; omega) (by simp) ?_; intro v1 w1 hown1 hg1 hat1)
    go_ret
    refine ⟨v1, rfl, by simpa using hown1, ?_⟩
    exact ((Below.refl _ _).alloc (Nat.le_refl _) _).grown hg1 (by simp) (fun k hk => by have h2 : w.heap.size = k := Option.some.inj hk; omega)

theorem Clone_box (A : Option Addr) (n c : Nat) (l : List BoxT) (ok : Nat → Prop) (w : World) (hr : boxK.Rd w ok A n l) (hn : n ≤ 1000000000000) :
    Calls Try.prog 55 #[.slice A n c] w fun e w' => ∃ v, e = .returned v ∧ boxK.Own 76 w' (fun k => ok k ∧ k < w.heap.size) w.heap.size v l ∧ Below w.heap.size w w' := by
  have HR := hide hr
  clear hr
  cases A with
  | none =>
    have heq := fun W => Lib.run_eql_slice_nil (P := Try.prog) W 59 76 none n c 0 0 Try.underlying59
    go_enter Try.func55, Try.ntmps55
    go_wp2_with fail
    go_ret
    have hl : l = [] := by
      rcases Nat.eq_zero_or_pos n with h0 | h0
      · exact List.eq_nil_of_length_eq_zero (by have := HR.out.1; omega)
      · obtain ⟨b, off, e, _⟩ := HR.out.2 h0
        cases e
    subst hl
    exact ⟨_, rfl, Kind.Own.nil _ _ _ _ _, Below.refl _ _⟩
  | some ad =>
    have heq := fun W => Lib.run_eql_slice_nil (P := Try.prog) W 59 76 (some ad) n c 0 0 Try.underlying59
    have hw0 : Below w.heap.size w (w.alloc (.cells #[] 76)) := (Below.refl _ _).alloc (Nat.le_refl _) _
    have HRD := hide (HR.out.bound.below hw0)
    have HOK := hide (show ∀ k, (ok k ∧ k < w.heap.size) → (Value.slice (some ⟨w.heap.size, 0, none⟩) 0 0).ownBlock ≠ some k from fun k hk e => by simp [Value.ownBlock] at e; omega)
    clear hw0
    go_enter Try.func55, Try.ntmps55
    go_wp2_with (at_builtin; refine wpList_append_rd (ok := fun k => ok k ∧ k < w.heap.size) (base := w.heap.size) (w.alloc (.cells #[] 76)) boxK rfl _ _ 59 rfl 76 _ 88 Try.underlying59 info_box rfl (by decide) (by decide) _ [] rfl ⟨[], World.ownsRow_made w #[] 0 (Nat.le_refl _) (Nat.zero_le _) rfl, Kind.Reps.nil _ _ _⟩ (some ad) n c l rfl HRD.out HOK.out (by simp; omega) (by simp) ?_; intro v1 w1 hown1 hg1 hat1)
    go_ret
    refine ⟨v1, rfl, by simpa using hown1, ?_⟩
    exact ((Below.refl _ _).alloc (Nat.le_refl _) _).grown hg1 (by simp) (fun k hk => by have h2 : w.heap.size = k := Option.some.inj hk; omega)

theorem Clone_line (A : Option Addr) (n c : Nat) (l : List LineT) (ok : Nat → Prop) (w : World) (hr : lineK.Rd w ok A n l) (hn : n ≤ 1000000000000) :
    Calls Try.prog 54 #[.slice A n c] w fun e w' => ∃ v, e = .returned v ∧ lineK.Own 61 w' (fun k => ok k ∧ k < w.heap.size) w.heap.size v l ∧ Below w.heap.size w w' := by
  have HR := hide hr
  clear hr
  cases A with
  | none =>
    have heq := fun W => Lib.run_eql_slice_nil (P := Try.prog) W 37 61 none n c 0 0 Try.underlying37
    go_enter Try.func54, Try.ntmps54
    go_wp2_with fail
    go_ret
    have hl : l = [] := by
      rcases Nat.eq_zero_or_pos n with h0 | h0
      · exact List.eq_nil_of_length_eq_zero (by have := HR.out.1; omega)
      · obtain ⟨b, off, e, _⟩ := HR.out.2 h0
        cases e
    subst hl
    exact ⟨_, rfl, Kind.Own.nil _ _ _ _ _, Below.refl _ _⟩
  | some ad =>
    have heq := fun W => Lib.run_eql_slice_nil (P := Try.prog) W 37 61 (some ad) n c 0 0 Try.underlying37
    have hw0 : Below w.heap.size w (w.alloc (.cells #[] 61)) := (Below.refl _ _).alloc (Nat.le_refl _) _
    have HRD := hide (HR.out.bound.below hw0)
    have HOK := hide (show ∀ k, (ok k ∧ k < w.heap.size) → (Value.slice (some ⟨w.heap.size, 0, none⟩) 0 0).ownBlock ≠ some k from fun k hk e => by simp [Value.ownBlock] at e; omega)
    clear hw0
    go_enter Try.func54, Try.ntmps54
    go_wp2_with (at_builtin; refine wpList_append_rd (ok := fun k => ok k ∧ k < w.heap.size) (base := w.heap.size) (w.alloc (.cells #[] 61)) lineK rfl _ _ 37 rfl 61 _ 64 Try.underlying37 info_line rfl (by decide) (by decide) _ [] rfl ⟨[], World.ownsRow_made w #[] 0 (Nat.le_refl _) (Nat.zero_le _) rfl, Kind.Reps.nil _ _ _⟩ (some ad) n c l rfl HRD.out HOK.out (by simp; omega) (by simp) ?_; intro v1 w1 hown1 hg1 hat1)
    go_ret
    refine ⟨v1, rfl, by simpa using hown1, ?_⟩
    exact ((Below.refl _ _).alloc (Nat.le_refl _) _).grown hg1 (by simp) (fun k hk => by have h2 : w.heap.size = k := Option.some.inj hk; omega)

end Go.Proofs.Ytbchokjhbjnfcaa
