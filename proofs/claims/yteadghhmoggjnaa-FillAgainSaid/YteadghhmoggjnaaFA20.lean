import Derived.Deep.RegionHeld3
import Derived.Test.YteadghhmoggjnaaFA4
import Derived.Test.YteadghhmoggjnaaFA17
import Derived.Test.YteadghhmoggjnaaFA14
import Derived.Test.YteadghhmoggjnaaFA19
import Derived.Test.YteadghhmoggjnaaFA18
import Derived.Test.YteadghhmoggjnaaFA10
import Derived.Test.YteadghhmoggjnaaFA16
section
section
namespace Go.Proofs.Yteadghhmoggjnaa.Q
open Go.RowKit Go.Proofs.YteadghhmoggjnaaW.PrintWords Go.Proofs.YteadghhmoggjnaaW.PrintLast

set_option linter.unusedVariables false
set_option linter.unusedSimpArgs false
/-! ### frisketlaw11_a: function 37 -/
def frisketlaw11_a.f (a0 : Int) : Option (Int × Int × Int × Int × ByteArray × ByteArray × List Int) := some (0, a0, 0, 10, (⟨#[97]⟩ : ByteArray), (⟨#[]⟩ : ByteArray), ([] : List Int))
set_option maxHeartbeats 8000000 in
set_option maxRecDepth 100000 in
theorem frisketlaw11_a.calls (a0 : Int) (r1 : Int) (r2 : Int) (r3 : Int) (r4 : Int) (r5 : ByteArray) (r6 : ByteArray) (r7 : List Int) (w : World) (h : frisketlaw11_a.f a0 = some (r1, r2, r3, r4, r5, r6, r7)) :
    Calls Try.prog 37 #[.int .i64 a0] w fun e w' => ∃ v6_ : Value, e = .returned (.agg #[.int .i64 r1, .int .i64 r2, .int .i64 r3, .int .i64 r4, .string r5, .string r6, v6_]) ∧ Kd.R (Kd.int .i64) 3 w' w.heap.size (fun _ => True) v6_ r7 ∧ Below w.heap.size w w' := by
  have hu33 := Try.underlying33
  have HB := Aside0.mk (Below.refl w.heap.size w)
  have H : (some (0, a0, 0, 10, (⟨#[97]⟩ : ByteArray), (⟨#[]⟩ : ByteArray), ([] : List Int))) = some (r1, r2, r3, r4, r5, r6, r7) := h
  clear h
  simp only [Option.some.injEq, Prod.mk.injEq] at H
  obtain ⟨rfl, rfl, rfl, rfl, rfl, rfl, rfl⟩ := H
  go_enter Try.func37, Try.ntmps37
  go_wp2_with (first | ((with_reducible refine gate_dst (N := 2) rfl ?_); refine box_event ?hg (N := 2) ?hd (cs := #[.int .i64 0, .int .i64 0, .int .i64 0, .int .i64 0, .string (⟨#[]⟩ : ByteArray), .string (⟨#[]⟩ : ByteArray), .slice none 0 0]) (t := 33) ?hr ?_; (case hd => rfl); (case hg => rfl); (case hr => first | (go_simp; done) | (go_simp; rfl)); intro gb173 hg w2 hbox hb; have n0_ := Aside0.mk (below_step (by repeat (first | (with_reducible first | exact HB.out | apply below_alloc | apply pw_below_drewN | apply below_drew1) | exact HB.out)) hb); have n1_ := Aside0.mk (hbox); have n2_ := Aside0.mk ((by rw [hg]; exact (below_size (by repeat (first | (with_reducible first | exact HB.out | apply below_alloc | apply pw_below_drewN | apply below_drew1) | exact HB.out))) : w.heap.size ≤ gb173)); have n3_ := Aside0.mk ((by rw [hg]; exact (below_size (by repeat (first | (with_reducible first | exact HB.out | apply below_alloc | apply pw_below_drewN | apply below_drew1) | exact HB.out))) : w.heap.size ≤ gb173)); clear HB; have HB := n0_; have BK173 := n1_; have GW173 := n2_; have GE173 := n3_; clear n0_ n1_ n2_ n3_; clear hb hbox hg; have hcz3_0 : w2.cell? ⟨gb173, 0, none⟩ = some (.int .i64 0) := (blk_cell BK173.out 0).trans rfl; have hcz3_1 : w2.cell? ⟨gb173, 1, none⟩ = some (.int .i64 0) := (blk_cell BK173.out 1).trans rfl; have hcz3_2 : w2.cell? ⟨gb173, 2, none⟩ = some (.int .i64 0) := (blk_cell BK173.out 2).trans rfl; have hcz3_3 : w2.cell? ⟨gb173, 3, none⟩ = some (.int .i64 0) := (blk_cell BK173.out 3).trans rfl; have hcz3_4 : w2.cell? ⟨gb173, 4, none⟩ = some (.string (⟨#[]⟩ : ByteArray)) := (blk_cell BK173.out 4).trans rfl; have hcz3_5 : w2.cell? ⟨gb173, 5, none⟩ = some (.string (⟨#[]⟩ : ByteArray)) := (blk_cell BK173.out 5).trans rfl; have hcz3_6 : w2.cell? ⟨gb173, 6, none⟩ = some (.slice none 0 0) := (blk_cell BK173.out 6).trans rfl; have hfz3_0 := blk_frozen BK173.out 0; have hfz3_1 := blk_frozen BK173.out 1; have hfz3_2 := blk_frozen BK173.out 2; have hfz3_3 := blk_frozen BK173.out 3; have hfz3_4 := blk_frozen BK173.out 4; have hfz3_5 := blk_frozen BK173.out 5; have hfz3_6 := blk_frozen BK173.out 6))
  refine bodyPost_ret (results_cell_row rfl _ _ gb173 33 #[.int .i64 0, .int .i64 a0, .int .i64 0, .int .i64 10, .string (⟨#[97]⟩ : ByteArray), .string (⟨#[]⟩ : ByteArray), .slice none 0 0] (0, 0) _ rfl (by (with_reducible repeat (first | refine blk_drewN ?_ _ | refine blk_drew ?_ | refine blk_alloc ?_ _)); refine blk_put (cs := #[.int .i64 0, .int .i64 a0, .int .i64 0, .int .i64 10, .string (⟨#[97]⟩ : ByteArray), .string (⟨#[]⟩ : ByteArray), .slice none 0 0]) ?_ 6 _ rfl; (with_reducible repeat (first | refine blk_drewN ?_ _ | refine blk_drew ?_ | refine blk_alloc ?_ _)); refine blk_put (cs := #[.int .i64 0, .int .i64 a0, .int .i64 0, .int .i64 10, .string (⟨#[97]⟩ : ByteArray), .string (⟨#[]⟩ : ByteArray), .slice none 0 0]) ?_ 5 _ rfl; (with_reducible repeat (first | refine blk_drewN ?_ _ | refine blk_drew ?_ | refine blk_alloc ?_ _)); refine blk_put (cs := #[.int .i64 0, .int .i64 a0, .int .i64 0, .int .i64 10, .string (⟨#[]⟩ : ByteArray), .string (⟨#[]⟩ : ByteArray), .slice none 0 0]) ?_ 4 _ rfl; (with_reducible repeat (first | refine blk_drewN ?_ _ | refine blk_drew ?_ | refine blk_alloc ?_ _)); refine blk_put (cs := #[.int .i64 0, .int .i64 a0, .int .i64 0, .int .i64 0, .string (⟨#[]⟩ : ByteArray), .string (⟨#[]⟩ : ByteArray), .slice none 0 0]) ?_ 3 _ rfl; (with_reducible repeat (first | refine blk_drewN ?_ _ | refine blk_drew ?_ | refine blk_alloc ?_ _)); refine blk_put (cs := #[.int .i64 0, .int .i64 a0, .int .i64 0, .int .i64 0, .string (⟨#[]⟩ : ByteArray), .string (⟨#[]⟩ : ByteArray), .slice none 0 0]) ?_ 2 _ rfl; (with_reducible repeat (first | refine blk_drewN ?_ _ | refine blk_drew ?_ | refine blk_alloc ?_ _)); refine blk_put (cs := #[.int .i64 0, .int .i64 0, .int .i64 0, .int .i64 0, .string (⟨#[]⟩ : ByteArray), .string (⟨#[]⟩ : ByteArray), .slice none 0 0]) ?_ 1 _ rfl; (with_reducible repeat (first | refine blk_drewN ?_ _ | refine blk_drew ?_ | refine blk_alloc ?_ _)); refine blk_put (cs := #[.int .i64 0, .int .i64 0, .int .i64 0, .int .i64 0, .string (⟨#[]⟩ : ByteArray), .string (⟨#[]⟩ : ByteArray), .slice none 0 0]) ?_ 0 _ rfl; (with_reducible repeat (first | refine blk_drewN ?_ _ | refine blk_drew ?_ | refine blk_alloc ?_ _)); exact BK173.out) Try.underlying33 rfl (by kernel_rfl)) rfl ?_
  exact ⟨_, by first | rfl | (simp [errW_none, errW_some] <;> rfl) | (simp [*, errW_none, errW_some] <;> rfl), by first | exact Kd.R_nil _ _ _ _ _ | exact Kd.N_nil _ _ _ _ _ | exact Kd.V_nil _ _ _ _ _ | exact Kd.Q_nil _ _ _ _ _ | exact Kd.S_nil _ _ _ _ _, by repeat (first | (with_reducible first | exact HB.out | apply below_alloc | apply pw_below_drewN | apply below_drew1 | refine below_set ?_ GE173.out) | exact HB.out)⟩
end Go.Proofs.Yteadghhmoggjnaa.Q
end
section
/- The laws' fixed example: sane. -/
set_option linter.unusedVariables false
set_option linter.unusedSimpArgs false
namespace Go.Proofs.YteadghhmoggjnaaB
open Go.RowKit
open Go.Proofs.Yteadghhmoggjnaa.Q (S33 k33 z33 k33_open k33_mk k33_mkM)
open Go.Proofs.YteadghhmoggjnaaW.PrintWords (Kd ReadsRow)
set_option maxHeartbeats 1600000
set_option maxRecDepth 1000000
def gA : S33 := ⟨0, 10, 0, 10, ⟨#[97]⟩, ⟨#[]⟩, []⟩
def gB (w : Int) : S33 := ⟨1, w, 0, 10, ⟨#[]⟩, ⟨#[]⟩, []⟩
theorem sane_take : Go.Proofs.Yteadghhmoggjnaa.Q.fill_Take.f [gA, gB 5, gA, gB 5, gA] 26 5 0 0 0 ⟨#[]⟩ ⟨#[]⟩ [] = some ([gA, gB 5, gA], [gA], true, 0) := by kernel_rfl
theorem sane_adj : Go.Proofs.Yteadghhmoggjnaa.Q.fill_Adjust.f [gA, gB 5, gA] 26 98 true = some ([gA, gB 6, gA], 0, 0) := by kernel_rfl
theorem five_rd {W : World} {g : Nat} {t : TypeId} {fr : Nat × Nat} {A0 A1 A2 A3 A4 : Option Addr} {c0 c1 c2 c3 c4 : Nat} (hb : W.heap[g]? = some (.cells (S33cells gA A0 c0 ++ (S33cells (gB 5) A1 c1 ++ (S33cells gA A2 c2 ++ (S33cells (gB 5) A3 c3 ++ S33cells gA A4 c4)))).toArray t fr)) :
    boxK.Rd W (fun _ => True) (some ⟨g, 0, none⟩) 5 [gA, gB 5, gA, gB 5, gA] := by
  have key : ∀ (i j : Nat) (u : Value), (S33cells gA A0 c0 ++ (S33cells (gB 5) A1 c1 ++ (S33cells gA A2 c2 ++ (S33cells (gB 5) A3 c3 ++ S33cells gA A4 c4))))[i * 7 + j]? = some u → W.cell? ⟨g, 0 + i * boxK.sz + j, none⟩ = some u := fun i j u h => by
    have e : 0 + i * boxK.sz + j = i * 7 + j := by show 0 + i * 7 + j = _; omega
    rw [e, blk_cell hb, List.getElem?_toArray]
    exact h
  refine ⟨rfl, fun _ => ⟨g, 0, rfl, trivial, blk_lt hb, fun i x hx => ?_⟩⟩
  rcases i with _ | _ | _ | _ | _ | i
  · obtain rfl : gA = x := by simpa using hx
    exact ⟨_, ⟨A0, c0, rfl, Nat.zero_le _, Kind.Rd.nil _ _ _ _⟩, fun j u hu => key 0 j u (by rcases j with _ | _ | _ | _ | _ | _ | _ | j <;> first | exact hu | (cases hu))⟩
  · obtain rfl : gB 5 = x := by simpa using hx
    exact ⟨_, ⟨A1, c1, rfl, Nat.zero_le _, Kind.Rd.nil _ _ _ _⟩, fun j u hu => key 1 j u (by rcases j with _ | _ | _ | _ | _ | _ | _ | j <;> first | exact hu | (cases hu))⟩
  · obtain rfl : gA = x := by simpa using hx
    exact ⟨_, ⟨A2, c2, rfl, Nat.zero_le _, Kind.Rd.nil _ _ _ _⟩, fun j u hu => key 2 j u (by rcases j with _ | _ | _ | _ | _ | _ | _ | j <;> first | exact hu | (cases hu))⟩
  · obtain rfl : gB 5 = x := by simpa using hx
    exact ⟨_, ⟨A3, c3, rfl, Nat.zero_le _, Kind.Rd.nil _ _ _ _⟩, fun j u hu => key 3 j u (by rcases j with _ | _ | _ | _ | _ | _ | _ | j <;> first | exact hu | (cases hu))⟩
  · obtain rfl : gA = x := by simpa using hx
    exact ⟨_, ⟨A4, c4, rfl, Nat.zero_le _, Kind.Rd.nil _ _ _ _⟩, fun j u hu => key 4 j u (by rcases j with _ | _ | _ | _ | _ | _ | _ | j <;> first | exact hu | (cases hu))⟩
  · simp at hx
theorem small3 (l : List S33) (h : l.all (fun x => decide (x.f6.length ≤ 9223372036854775807)) = true) : ∀ x ∈ l, x.f6.length ≤ 9223372036854775807 := fun x hx => of_decide_eq_true (List.all_eq_true.1 h x hx)
theorem nil_C (W : World) : (Kd.int .i64).C W none 0 [] := ⟨rfl, by decide, fun h => absurd h (by decide)⟩
theorem sane_any (w : World) : Calls Try.prog 15 #[] w fun e w' => e = .returned (.bool true) ∧ Below w.heap.size w w' := by
  have HB : Hid (Below w.heap.size w w) := hide (Below.refl _ _)
  go_enter Try.func15, Try.ntmps15
  go_wp2_with (first
    | (go_at_call 37
       refine (Go.Proofs.Yteadghhmoggjnaa.Q.frisketlaw11_a.calls 10 0 10 0 10 ⟨#[97]⟩ ⟨#[]⟩ [] _ rfl).mono ?_
       rintro e w2 ⟨v6, rfl, hv, hb⟩
       obtain ⟨A6, c6, rfl⟩ := Kd.R_slice hv
       have HB2 := hide (below_self HB.out hb)
       clear hv hb HB
       have HB := HB2
       clear HB2)
    | (go_at_call 18
       refine (Go.Proofs.Yteadghhmoggjnaa.Q.frisketlaw11_blank.calls 5 1 5 0 10 ⟨#[]⟩ ⟨#[]⟩ [] _ rfl).mono ?_
       rintro e w2 ⟨v6, rfl, hv, hb⟩
       obtain ⟨A6, c6, rfl⟩ := Kd.R_slice hv
       have HB2 := hide (below_self HB.out hb)
       clear hv hb HB
       have HB := HB2
       clear HB2)
    | (go_at_call 16
       refine (Go.Proofs.Yteadghhmoggjnaa.Q.fill_Take.calls (some ⟨w2.heap.size, 0, none⟩) 5 [gA, gB 5, gA, gB 5, gA] 26 5 0 0 0 ⟨#[]⟩ ⟨#[]⟩ none 0 [] [gA, gB 5, gA] [gA] true 0 _ (C_boxes (by decide) (small3 _ rfl) (five_rd (blk_new w2 _))) (by decide) (nil_C _) (Nat.le_refl _) sane_take).mono ?_
       rintro e w3 ⟨v0, v1, rfl, hs0, hs1, hb⟩
       obtain ⟨A7, c7, rfl, h7, hf7⟩ := Kd.S_V (base' := 0) hs0
       obtain ⟨A8, c8, rfl, -, -⟩ := Kd.S_V (base' := 0) hs1
       have HR7 := hide (rd_of_F hf7)
       have HB3 : Hid (Below w.heap.size w w3) := hide (below_self (below_self HB.out (below_a _)) hb)
       clear hs0 hs1 hb hf7 HB)
    | (go_at_call 11
       refine (Go.Proofs.Yteadghhmoggjnaa.Q.fill_Adjust.calls A7 c7 [gA, gB 5, gA] 26 98 true [gA, gB 6, gA] 0 0 _ (C_boxes (by decide) (small3 _ rfl) HR7.out) h7 sane_adj).mono ?_
       rintro e w4 ⟨v0, rfl, hs0, hb⟩
       obtain ⟨A9, c9, rfl, -, hf9⟩ := Kd.S_V (base' := 0) hs0
       obtain ⟨b9, o9, A10, c10, rfl, -, -, -, -, z1, -, -, -, -, -⟩ := box_cells (i := 1) (x := gB 6) (rd_of_F hf9) rfl
       have z1' : w4.cell? ⟨b9, o9 + 7 + 1, none⟩ = some (.int .i64 6) := z1
       have HB4 : Hid (Below w.heap.size w w4) := hide (below_self HB3.out hb)
       clear hs0 hb hf9 z1))
  go_ret
  exact ⟨rfl, HB4.out⟩
end Go.Proofs.YteadghhmoggjnaaB
end
section
namespace Go.Proofs.Yteadghhmoggjnaa.Q
open Go.RowKit Go.Proofs.YteadghhmoggjnaaW.PrintWords Go.Proofs.YteadghhmoggjnaaW.PrintLast

set_option linter.unusedVariables false
set_option linter.unusedSimpArgs false
-- GIVEN by hand
-- GIVEN IMPORT Derived.Test.YteadghhmoggjnaaF18
/-! ### frisketlaw11_sane: function 15 -/
def frisketlaw11_sane.f  : Option (Bool) := some true
theorem frisketlaw11_sane.calls  (r : Bool) (w : World) (h : frisketlaw11_sane.f  = some r) :
    Calls Try.prog 15 #[] w fun e w' => e = .returned (.bool r) ∧ Below w.heap.size w w' := by
  obtain rfl := Option.some.inj h
  exact Go.Proofs.YteadghhmoggjnaaB.sane_any w
end Go.Proofs.Yteadghhmoggjnaa.Q
end
end
section
namespace Go.Proofs.Yteadghhmoggjnaa.Q
open Go.RowKit Go.Proofs.YteadghhmoggjnaaW.PrintWords Go.Proofs.YteadghhmoggjnaaW.PrintLast

set_option linter.unusedVariables false
set_option linter.unusedSimpArgs false
/-! ### frisketlaw11_hyphen: function 17 -/
def frisketlaw11_hyphen.f (a0 : Int) : Option (Int × Int × Int × Int × ByteArray × ByteArray × List Int) := if (Int.tmod a0 3) = 0 then (some (5, 0, 0, 0, (⟨#[]⟩ : ByteArray), (⟨#[]⟩ : ByteArray), ([] : List Int))) else (some (0, wrap64 (Int.tmod (IntKind.u64.wrap (a0)) 12), 0, 10, (⟨#[104, 121]⟩ : ByteArray), (⟨#[]⟩ : ByteArray), ([] : List Int)))
set_option maxHeartbeats 8000000 in
set_option maxRecDepth 100000 in
theorem frisketlaw11_hyphen.calls (a0 : Int) (r1 : Int) (r2 : Int) (r3 : Int) (r4 : Int) (r5 : ByteArray) (r6 : ByteArray) (r7 : List Int) (w : World) (h : frisketlaw11_hyphen.f a0 = some (r1, r2, r3, r4, r5, r6, r7)) :
  Calls Try.prog 17 #[.int .i64 a0] w fun e w' => ∃ v6_ : Value, e = .returned (.agg #[.int .i64 r1, .int .i64 r2, .int .i64 r3, .int .i64 r4, .string r5, .string r6, v6_]) ∧ Kd.R (Kd.int .i64) 3 w' w.heap.size (fun _ => True) v6_ r7 ∧ Below w.heap.size w w' := by
 have hu33 := Try.underlying33
 have HB := Aside0.mk (Below.refl w.heap.size w)
 have H : (if (Int.tmod a0 3) = 0 then (some (5, 0, 0, 0, (⟨#[]⟩ : ByteArray), (⟨#[]⟩ : ByteArray), ([] : List Int))) else (some (0, wrap64 (Int.tmod (IntKind.u64.wrap (a0)) 12), 0, 10, (⟨#[104, 121]⟩ : ByteArray), (⟨#[]⟩ : ByteArray), ([] : List Int)))) = some (r1, r2, r3, r4, r5, r6, r7) := h
 clear h
 by_cases c2 : (Int.tmod a0 3) = 0
 ·rw [if_pos c2] at H
  have c2b0 : ((Int.tmod a0 3) == 0) = true := beq_iff_eq.mpr c2
  have c2b1 : ((Int.tmod a0 3) != 0) = false := bne_eq_false_iff_eq.mpr c2
  clear c2
  simp only [Option.some.injEq, Prod.mk.injEq] at H
  obtain ⟨rfl, rfl, rfl, rfl, rfl, rfl, rfl⟩ := H
  go_enter Try.func17, Try.ntmps17
  go_wp2_with (first | ((with_reducible refine gate_dst (N := 2) rfl ?_); refine box_event ?hg (N := 2) ?hd (cs := #[.int .i64 0, .int .i64 0, .int .i64 0, .int .i64 0, .string (⟨#[]⟩ : ByteArray), .string (⟨#[]⟩ : ByteArray), .slice none 0 0]) (t := 33) ?hr ?_; (case hd => rfl); (case hg => rfl); (case hr => first | (go_simp; done) | (go_simp; rfl)); intro gb236 hg w3 hbox hb; have n0_ := Aside0.mk (below_step (by repeat (first | (with_reducible first | exact HB.out | apply below_alloc | apply pw_below_drewN | apply below_drew1) | exact HB.out)) hb); have n1_ := Aside0.mk (hbox); have n2_ := Aside0.mk ((by rw [hg]; exact (below_size (by repeat (first | (with_reducible first | exact HB.out | apply below_alloc | apply pw_below_drewN | apply below_drew1) | exact HB.out))) : w.heap.size ≤ gb236)); have n3_ := Aside0.mk ((by rw [hg]; exact (below_size (by repeat (first | (with_reducible first | exact HB.out | apply below_alloc | apply pw_below_drewN | apply below_drew1) | exact HB.out))) : w.heap.size ≤ gb236)); clear HB; have HB := n0_; have BK236 := n1_; have GW236 := n2_; have GE236 := n3_; clear n0_ n1_ n2_ n3_; clear hb hbox hg; have hcz4_0 : w3.cell? ⟨gb236, 0, none⟩ = some (.int .i64 0) := (blk_cell BK236.out 0).trans rfl; have hcz4_1 : w3.cell? ⟨gb236, 1, none⟩ = some (.int .i64 0) := (blk_cell BK236.out 1).trans rfl; have hcz4_2 : w3.cell? ⟨gb236, 2, none⟩ = some (.int .i64 0) := (blk_cell BK236.out 2).trans rfl; have hcz4_3 : w3.cell? ⟨gb236, 3, none⟩ = some (.int .i64 0) := (blk_cell BK236.out 3).trans rfl; have hcz4_4 : w3.cell? ⟨gb236, 4, none⟩ = some (.string (⟨#[]⟩ : ByteArray)) := (blk_cell BK236.out 4).trans rfl; have hcz4_5 : w3.cell? ⟨gb236, 5, none⟩ = some (.string (⟨#[]⟩ : ByteArray)) := (blk_cell BK236.out 5).trans rfl; have hcz4_6 : w3.cell? ⟨gb236, 6, none⟩ = some (.slice none 0 0) := (blk_cell BK236.out 6).trans rfl; have hfz4_0 := blk_frozen BK236.out 0; have hfz4_1 := blk_frozen BK236.out 1; have hfz4_2 := blk_frozen BK236.out 2; have hfz4_3 := blk_frozen BK236.out 3; have hfz4_4 := blk_frozen BK236.out 4; have hfz4_5 := blk_frozen BK236.out 5; have hfz4_6 := blk_frozen BK236.out 6))
  refine bodyPost_ret (results_cell_row rfl _ _ gb236 33 #[.int .i64 5, .int .i64 0, .int .i64 0, .int .i64 0, .string (⟨#[]⟩ : ByteArray), .string (⟨#[]⟩ : ByteArray), .slice none 0 0] (0, 0) _ rfl (by (with_reducible repeat (first | refine blk_drewN ?_ _ | refine blk_drew ?_ | refine blk_alloc ?_ _)); refine blk_put (cs := #[.int .i64 5, .int .i64 0, .int .i64 0, .int .i64 0, .string (⟨#[]⟩ : ByteArray), .string (⟨#[]⟩ : ByteArray), .slice none 0 0]) ?_ 6 _ rfl; (with_reducible repeat (first | refine blk_drewN ?_ _ | refine blk_drew ?_ | refine blk_alloc ?_ _)); refine blk_put (cs := #[.int .i64 5, .int .i64 0, .int .i64 0, .int .i64 0, .string (⟨#[]⟩ : ByteArray), .string (⟨#[]⟩ : ByteArray), .slice none 0 0]) ?_ 5 _ rfl; (with_reducible repeat (first | refine blk_drewN ?_ _ | refine blk_drew ?_ | refine blk_alloc ?_ _)); refine blk_put (cs := #[.int .i64 5, .int .i64 0, .int .i64 0, .int .i64 0, .string (⟨#[]⟩ : ByteArray), .string (⟨#[]⟩ : ByteArray), .slice none 0 0]) ?_ 4 _ rfl; (with_reducible repeat (first | refine blk_drewN ?_ _ | refine blk_drew ?_ | refine blk_alloc ?_ _)); refine blk_put (cs := #[.int .i64 5, .int .i64 0, .int .i64 0, .int .i64 0, .string (⟨#[]⟩ : ByteArray), .string (⟨#[]⟩ : ByteArray), .slice none 0 0]) ?_ 3 _ rfl; (with_reducible repeat (first | refine blk_drewN ?_ _ | refine blk_drew ?_ | refine blk_alloc ?_ _)); refine blk_put (cs := #[.int .i64 5, .int .i64 0, .int .i64 0, .int .i64 0, .string (⟨#[]⟩ : ByteArray), .string (⟨#[]⟩ : ByteArray), .slice none 0 0]) ?_ 2 _ rfl; (with_reducible repeat (first | refine blk_drewN ?_ _ | refine blk_drew ?_ | refine blk_alloc ?_ _)); refine blk_put (cs := #[.int .i64 5, .int .i64 0, .int .i64 0, .int .i64 0, .string (⟨#[]⟩ : ByteArray), .string (⟨#[]⟩ : ByteArray), .slice none 0 0]) ?_ 1 _ rfl; (with_reducible repeat (first | refine blk_drewN ?_ _ | refine blk_drew ?_ | refine blk_alloc ?_ _)); refine blk_put (cs := #[.int .i64 0, .int .i64 0, .int .i64 0, .int .i64 0, .string (⟨#[]⟩ : ByteArray), .string (⟨#[]⟩ : ByteArray), .slice none 0 0]) ?_ 0 _ rfl; (with_reducible repeat (first | refine blk_drewN ?_ _ | refine blk_drew ?_ | refine blk_alloc ?_ _)); exact BK236.out) Try.underlying33 rfl (by kernel_rfl)) rfl ?_
  exact ⟨_, by first | rfl | (simp [errW_none, errW_some] <;> rfl) | (simp [*, errW_none, errW_some] <;> rfl), by first | exact Kd.R_nil _ _ _ _ _ | exact Kd.N_nil _ _ _ _ _ | exact Kd.V_nil _ _ _ _ _ | exact Kd.Q_nil _ _ _ _ _ | exact Kd.S_nil _ _ _ _ _, by repeat (first | (with_reducible first | exact HB.out | apply below_alloc | apply pw_below_drewN | apply below_drew1 | refine below_set ?_ GE236.out) | exact HB.out)⟩
 ·rw [if_neg c2] at H
  have c2b0 : ((Int.tmod a0 3) == 0) = false := beq_eq_false_iff_ne.mpr c2
  have c2b1 : ((Int.tmod a0 3) != 0) = true := bne_iff_ne.mpr c2
  simp only [Option.some.injEq, Prod.mk.injEq] at H
  obtain ⟨rfl, rfl, rfl, rfl, rfl, rfl, rfl⟩ := H
  go_enter Try.func17, Try.ntmps17
  go_wp2_with (first | ((with_reducible refine gate_dst (N := 2) rfl ?_); refine box_event ?hg (N := 2) ?hd (cs := #[.int .i64 0, .int .i64 0, .int .i64 0, .int .i64 0, .string (⟨#[]⟩ : ByteArray), .string (⟨#[]⟩ : ByteArray), .slice none 0 0]) (t := 33) ?hr ?_; (case hd => rfl); (case hg => rfl); (case hr => first | (go_simp; done) | (go_simp; rfl)); intro gb236 hg w5 hbox hb; have n0_ := Aside0.mk (below_step (by repeat (first | (with_reducible first | exact HB.out | apply below_alloc | apply pw_below_drewN | apply below_drew1) | exact HB.out)) hb); have n1_ := Aside0.mk (hbox); have n2_ := Aside0.mk ((by rw [hg]; exact (below_size (by repeat (first | (with_reducible first | exact HB.out | apply below_alloc | apply pw_below_drewN | apply below_drew1) | exact HB.out))) : w.heap.size ≤ gb236)); have n3_ := Aside0.mk ((by rw [hg]; exact (below_size (by repeat (first | (with_reducible first | exact HB.out | apply below_alloc | apply pw_below_drewN | apply below_drew1) | exact HB.out))) : w.heap.size ≤ gb236)); clear HB; have HB := n0_; have BK236 := n1_; have GW236 := n2_; have GE236 := n3_; clear n0_ n1_ n2_ n3_; clear hb hbox hg; have hcz6_0 : w5.cell? ⟨gb236, 0, none⟩ = some (.int .i64 0) := (blk_cell BK236.out 0).trans rfl; have hcz6_1 : w5.cell? ⟨gb236, 1, none⟩ = some (.int .i64 0) := (blk_cell BK236.out 1).trans rfl; have hcz6_2 : w5.cell? ⟨gb236, 2, none⟩ = some (.int .i64 0) := (blk_cell BK236.out 2).trans rfl; have hcz6_3 : w5.cell? ⟨gb236, 3, none⟩ = some (.int .i64 0) := (blk_cell BK236.out 3).trans rfl; have hcz6_4 : w5.cell? ⟨gb236, 4, none⟩ = some (.string (⟨#[]⟩ : ByteArray)) := (blk_cell BK236.out 4).trans rfl; have hcz6_5 : w5.cell? ⟨gb236, 5, none⟩ = some (.string (⟨#[]⟩ : ByteArray)) := (blk_cell BK236.out 5).trans rfl; have hcz6_6 : w5.cell? ⟨gb236, 6, none⟩ = some (.slice none 0 0) := (blk_cell BK236.out 6).trans rfl; have hfz6_0 := blk_frozen BK236.out 0; have hfz6_1 := blk_frozen BK236.out 1; have hfz6_2 := blk_frozen BK236.out 2; have hfz6_3 := blk_frozen BK236.out 3; have hfz6_4 := blk_frozen BK236.out 4; have hfz6_5 := blk_frozen BK236.out 5; have hfz6_6 := blk_frozen BK236.out 6))
  refine bodyPost_ret (results_cell_row rfl _ _ gb236 33 #[.int .i64 0, .int .i64 (wrap64 (Int.tmod (IntKind.u64.wrap (a0)) 12)), .int .i64 0, .int .i64 10, .string (⟨#[104, 121]⟩ : ByteArray), .string (⟨#[]⟩ : ByteArray), .slice none 0 0] (0, 0) _ rfl (by (with_reducible repeat (first | refine blk_drewN ?_ _ | refine blk_drew ?_ | refine blk_alloc ?_ _)); refine blk_put (cs := #[.int .i64 0, .int .i64 (wrap64 (Int.tmod (IntKind.u64.wrap (a0)) 12)), .int .i64 0, .int .i64 10, .string (⟨#[104, 121]⟩ : ByteArray), .string (⟨#[]⟩ : ByteArray), .slice none 0 0]) ?_ 6 _ rfl; (with_reducible repeat (first | refine blk_drewN ?_ _ | refine blk_drew ?_ | refine blk_alloc ?_ _)); refine blk_put (cs := #[.int .i64 0, .int .i64 (wrap64 (Int.tmod (IntKind.u64.wrap (a0)) 12)), .int .i64 0, .int .i64 10, .string (⟨#[104, 121]⟩ : ByteArray), .string (⟨#[]⟩ : ByteArray), .slice none 0 0]) ?_ 5 _ rfl; (with_reducible repeat (first | refine blk_drewN ?_ _ | refine blk_drew ?_ | refine blk_alloc ?_ _)); refine blk_put (cs := #[.int .i64 0, .int .i64 (wrap64 (Int.tmod (IntKind.u64.wrap (a0)) 12)), .int .i64 0, .int .i64 10, .string (⟨#[]⟩ : ByteArray), .string (⟨#[]⟩ : ByteArray), .slice none 0 0]) ?_ 4 _ rfl; (with_reducible repeat (first | refine blk_drewN ?_ _ | refine blk_drew ?_ | refine blk_alloc ?_ _)); refine blk_put (cs := #[.int .i64 0, .int .i64 (wrap64 (Int.tmod (IntKind.u64.wrap (a0)) 12)), .int .i64 0, .int .i64 0, .string (⟨#[]⟩ : ByteArray), .string (⟨#[]⟩ : ByteArray), .slice none 0 0]) ?_ 3 _ rfl; (with_reducible repeat (first | refine blk_drewN ?_ _ | refine blk_drew ?_ | refine blk_alloc ?_ _)); refine blk_put (cs := #[.int .i64 0, .int .i64 (wrap64 (Int.tmod (IntKind.u64.wrap (a0)) 12)), .int .i64 0, .int .i64 0, .string (⟨#[]⟩ : ByteArray), .string (⟨#[]⟩ : ByteArray), .slice none 0 0]) ?_ 2 _ rfl; (with_reducible repeat (first | refine blk_drewN ?_ _ | refine blk_drew ?_ | refine blk_alloc ?_ _)); refine blk_put (cs := #[.int .i64 0, .int .i64 0, .int .i64 0, .int .i64 0, .string (⟨#[]⟩ : ByteArray), .string (⟨#[]⟩ : ByteArray), .slice none 0 0]) ?_ 1 _ rfl; (with_reducible repeat (first | refine blk_drewN ?_ _ | refine blk_drew ?_ | refine blk_alloc ?_ _)); refine blk_put (cs := #[.int .i64 0, .int .i64 0, .int .i64 0, .int .i64 0, .string (⟨#[]⟩ : ByteArray), .string (⟨#[]⟩ : ByteArray), .slice none 0 0]) ?_ 0 _ rfl; (with_reducible repeat (first | refine blk_drewN ?_ _ | refine blk_drew ?_ | refine blk_alloc ?_ _)); exact BK236.out) Try.underlying33 rfl (by kernel_rfl)) rfl ?_
  exact ⟨_, by first | rfl | (simp [errW_none, errW_some] <;> rfl) | (simp [*, errW_none, errW_some] <;> rfl), by first | exact Kd.R_nil _ _ _ _ _ | exact Kd.N_nil _ _ _ _ _ | exact Kd.V_nil _ _ _ _ _ | exact Kd.Q_nil _ _ _ _ _ | exact Kd.S_nil _ _ _ _ _, by repeat (first | (with_reducible first | exact HB.out | apply below_alloc | apply pw_below_drewN | apply below_drew1 | refine below_set ?_ GE236.out) | exact HB.out)⟩
end Go.Proofs.Yteadghhmoggjnaa.Q
end
section
/- The law FillAgain: the walk. -/
set_option linter.unusedVariables false
set_option linter.unusedSimpArgs false
namespace Go.Proofs.YteadghhmoggjnaaB
open Go.RowKit
open Go.Proofs.Yteadghhmoggjnaa.Q
open Go.Proofs.YteadghhmoggjnaaW.PrintWords Go.Proofs.YteadghhmoggjnaaW.PrintLast
attribute [local go_sem] Oper.semAt_some
set_option maxHeartbeats 4000000
set_option maxRecDepth 1000000
/-- The hyphen of a number. -/
def hyN (n : Int) : S33 := if Int.tmod n 3 = 0 then ⟨5, 0, 0, 0, ⟨#[]⟩, ⟨#[]⟩, []⟩ else ⟨0, wrap64 (Int.tmod (IntKind.u64.wrap n) 12), 0, 10, ⟨#[104, 121]⟩, ⟨#[]⟩, []⟩
theorem hyN_f (n : Int) : frisketlaw11_hyphen.f n = some ((hyN n).f0, (hyN n).f1, (hyN n).f2, (hyN n).f3, (hyN n).f4, (hyN n).f5, (hyN n).f6) := by
  unfold frisketlaw11_hyphen.f hyN
  split <;> rfl
theorem hyN_6 (n : Int) : (hyN n).f6 = [] := by unfold hyN; split <;> rfl
theorem reps_plain {w : World} {ok ok' : Nat → Prop} {l : List S33} {cs : List Value} (h6 : ∀ x ∈ l, x.f6 = []) (h : boxK.Reps w ok l cs) : boxK.Reps w ok' l cs := by
  refine ⟨h.1, fun i x hx => ?_⟩
  obtain ⟨A6, c6, e, h6c, hr6⟩ := h.2 i x hx
  refine ⟨A6, c6, e, h6c, ?_⟩
  rw [h6 x (List.mem_of_getElem? hx)]
  exact Kind.Rd.nil _ _ _ _
theorem own_plain {e : TypeId} {w : World} {ok ok' : Nat → Prop} {base : Nat} {v : Value} {l : List S33} (h6 : ∀ x ∈ l, x.f6 = []) (h : boxK.Own e w ok base v l) : boxK.Own e w ok' base v l := by
  obtain ⟨xs, ho, hr⟩ := h
  exact ⟨xs, ho, reps_plain h6 hr⟩
/-- What FillAgain's calls answer, told ahead of the walk. -/
structure AgF (ns more : List Int) (len hn : Int) (K : Nat) (row rm : List S33) (h : S33) (n : Int) (line left line2 left2 : List S33) (full : Bool) : Prop where
  frow : frisketlaw11_Row.f K ns = some row
  fmore : frisketlaw11_Row.f K more = some rm
  fhy : frisketlaw11_hyphen.f hn = some (h.f0, h.f1, h.f2, h.f3, h.f4, h.f5, [])
  ftake : fill_Take.f row n h.f0 h.f1 h.f2 h.f3 h.f4 h.f5 [] = some (line, left, full, 0)
  fnot : full = false → left = []
  ftake2 : full = true → fill_Take.f (row ++ [gB 3] ++ rm) n h.f0 h.f1 h.f2 h.f3 h.f4 h.f5 [] = some (line2, left2, true, 0)
  fline : full = true → line2 = line
  fleft : full = true → left2.take left.length = left
  flen : full = true → left.length ≤ left2.length
  same1 : frisketref08_Same.f K line line = some true
  same2 : frisketref08_Same.f K left left = some true
  row6 : ∀ x ∈ row, x.f6 = []
  rm6 : ∀ x ∈ rm, x.f6 = []
  rowl : row.length ≤ 120
  rml : rm.length ≤ 120
theorem FillAgain_any (ns more : List Int) (len hn : Int) (A0 A1 : Option Addr) (c0 c1 : Nat) (w : World) (K : Nat) (row rm : List S33) (h : S33) (line left line2 left2 : List S33) (full : Bool)
    (hr0 : (Kd.int .i64).C w A0 ns.length ns) (hc0 : ns.length ≤ c0) (hr1 : (Kd.int .i64).C w A1 more.length more) (hc1 : more.length ≤ c1) (hF : AgF ns more len hn K row rm h (wrap64 (Int.tmod (IntKind.u64.wrap len) 200)) line left line2 left2 full) :
    Calls Try.prog 5 #[.agg #[.slice A0 ns.length c0, .slice A1 more.length c1, .int .i64 len, .int .i64 hn]] w fun e w' => e = .returned (.bool true) ∧ Below w.heap.size w w' := by
  have HR0 := hide hr0
  have HR1 := hide hr1
  have HC0 := hide hc0
  have HC1 := hide hc1
  have HF := hide hF
  clear hr0 hr1 hc0 hc1 hF
  go_enter Try.func5, Try.ntmps5
  go_upto_region 1 with fail
  obtain ⟨w1, hw1⟩ : ∃ w1, w1 = w.alloc (.cells #[.slice A0 ns.length c0, .slice A1 more.length c1, .int .i64 len, .int .i64 hn] 38) := ⟨_, rfl⟩
  have HB1 := hide (show Below w.heap.size w w1 by rw [hw1]; exact below_a _)
  have x0 : w1.cell? ⟨w.heap.size, 0, none⟩ = some (.slice A0 ns.length c0) := by rw [hw1, blk_cell (blk_new w _)]; rfl
  have x1 : w1.cell? ⟨w.heap.size, 1, none⟩ = some (.slice A1 more.length c1) := by rw [hw1, blk_cell (blk_new w _)]; rfl
  have x2 : w1.cell? ⟨w.heap.size, 2, none⟩ = some (.int .i64 len) := by rw [hw1, blk_cell (blk_new w _)]; rfl
  have x3 : w1.cell? ⟨w.heap.size, 3, none⟩ = some (.int .i64 hn) := by rw [hw1, blk_cell (blk_new w _)]; rfl
  rw [← hw1]
  clear hw1
  obtain ⟨gb, hgb⟩ : ∃ gb, gb = w.heap.size := ⟨_, rfl⟩
  rw [← hgb] at x0 x1 x2 x3 ⊢
  have HGB := hide hgb
  clear hgb
  go_upto_region 2 with (first
    | go_region_held3 (fun w' => w'.cell? ⟨gb, 0, none⟩ = some (.slice A0 ns.length c0) ∧ w'.cell? ⟨gb, 1, none⟩ = some (.slice A1 more.length c1) ∧ w'.cell? ⟨gb, 2, none⟩ = some (.int .i64 len) ∧ w'.cell? ⟨gb, 3, none⟩ = some (.int .i64 hn)) (first | exact ⟨x0, x1, x2, x3⟩ | fail "own keep") (fail "no call"))
  clear x0 x1 x2 x3 HGB
  have HBD := hide HB1.out.drew
  clear HB1
  generalize w1.drew = wa at *
  go_upto_region 5 with (first
    | (go_at_call 10; refine (frisketlaw11_Row.calls K A0 c0 ns row wa (Kd.C_below HR0.out HBD.out) HC0.out HF.out.frow).mono ?_; rintro e w2 ⟨v2, rfl, q1, q2⟩; have HS2 := hide q1; have HB2 := hide (below_self HBD.out q2); clear q1 q2 HBD; obtain ⟨A2, c2, e2⟩ := Kd.S_slice HS2.out; subst e2)
    | (go_at_call 17; refine (frisketlaw11_hyphen.calls hn h.f0 h.f1 h.f2 h.f3 h.f4 h.f5 [] w2 HF.out.fhy).mono ?_; rintro e w3 ⟨v3, rfl, q1, q2⟩; have HS3 := hide q1; have HC2 := hide (Kd.C_below (Kd.S_reads' HS2.out).2.2 q2); have HCC2 := hide (Kd.S_reads' HS2.out).2.1; have HB3 := hide (below_self HB2.out q2); clear q1 q2 HB2 HS2; obtain ⟨A3, c3, e3⟩ := Kd.R_slice HS3.out; subst e3)
    | (go_at_call 16; refine (fill_Take.calls A2 c2 row (wrap64 (Int.tmod (IntKind.u64.wrap len) 200)) h.f0 h.f1 h.f2 h.f3 h.f4 h.f5 A3 c3 [] line left full 0 w3 HC2.out HCC2.out (Kd.R_reads' HS3.out).2.2 (Kd.R_reads' HS3.out).2.1 HF.out.ftake).mono ?_; rintro e w4 ⟨v4, v5, rfl, q1, q3, q2⟩; have HS4 := hide q1; have HS5 := hide q3; have HC2' := hide (Kd.C_below HC2.out q2); have HB4 := hide (below_self HB3.out q2); clear q1 q2 q3 HB3 HC2 HS3; obtain ⟨A4, c4, e4⟩ := Kd.S_slice HS4.out; subst e4; obtain ⟨A5, c5, e5⟩ := Kd.S_slice HS5.out; subst e5))
  cases full with
  | false =>
    have hz : left = [] := HF.out.fnot rfl
    subst hz
    clear HS4 HS5
    go_wp2_with (first
      | (go_at_call 15; refine (frisketlaw11_sane.calls true w4 rfl).mono ?_; rintro e w5 ⟨rfl, q2⟩; have HB5 := hide (below_self HB4.out q2); clear q2 HB4))
    go_ret
    exact ⟨rfl, HB5.out⟩
  | true =>
    obtain ⟨B0, hB0⟩ : ∃ B0, B0 = w4.heap.size := ⟨_, rfl⟩
    have HB0 := hide hB0
    have HL4 := hide (Kd.S_reads' HS4.out).2
    have HL5 := hide (Kd.S_reads' HS5.out).2
    have HRR := hide ((rd_boxes HC2'.out).bound)
    clear hB0 HS4 HS5
    have hw0 : Below B0 w4 (w4.alloc (.cells #[] 33)) := by rw [HB0.out]; exact (Below.refl _ _).alloc (Nat.le_refl _) _
    have HW0 := hide hw0
    have HRD := hide (show boxK.Rd (w4.alloc (.cells #[] 33)) (fun k => k < B0) A2 row.length row from ((HRR.out.below (by rw [← HB0.out]; exact hw0)).weaken (fun k hk => by rw [HB0.out]; exact hk.2)))
    have HOK := hide (show ∀ k, k < B0 → (Value.slice (some ⟨w4.heap.size, 0, none⟩) 0 0).ownBlock ≠ some k from fun k hk e => by simp [Value.ownBlock] at e; have := HB0.out; omega)
    have HK3 : Hid (∀ (W : World) (ok : Nat → Prop) (A6 : Option Addr) (c6 : Nat), boxK.K W ok (gB 3) [.int .i64 1, .int .i64 3, .int .i64 0, .int .i64 10, .string ⟨#[]⟩, .string ⟨#[]⟩, .slice A6 0 c6]) := hide (fun W ok A6 c6 => ⟨A6, c6, rfl, Nat.zero_le _, Kind.Rd.nil _ _ _ _⟩)
    have HSIX := hide (show ∀ x ∈ row ++ [gB 3], x.f6 = [] from fun x hx => by
      rcases List.mem_append.1 hx with h1 | h1
      · exact HF.out.row6 x h1
      · rw [List.mem_singleton.1 h1]; rfl)
    clear hw0
    go_upto_region 10 with (first
      | (have HX5 := HB8
         at_builtin
         refine wpList_append_rd (ok := fun k => w7.heap.size ≤ k) (base := B0) w8 boxK rfl _ _ 23 rfl 33 _ 88 Try.underlying23 info_box rfl (by decide) (by decide) v7 (row ++ [gB 3]) rfl (own_plain HSIX.out HO8.out) A8 rm.length c8 rm rfl HRD8.out HOK8.out (by have := HF.out.rowl; have := HF.out.rml; simp; omega) (by have := HB8.out.size; have := HB0.out; omega) ?_
         intro v9 w9 q1 q2 q3
         have HO9 := hide q1
         have HB9 := hide (HB8.out.grown q2 (by have := HB8.out.size; have := HB0.out; omega) (fun k hk => (HO8.out.lt k hk).1))
         clear q1 q2 q3 HX5)
      | (have HX5 := HB7
         go_at_call 10
         refine (frisketlaw11_Row.calls K A1 c1 more rm w7 (Kd.C_below HR1.out (below_self HB4.out (by have h9 := HB7.out; rw [HB0.out] at h9; exact h9))) HC1.out HF.out.fmore).mono ?_
         rintro e w8 ⟨v8, rfl, q1, q2⟩
         obtain ⟨A8, c8, e8⟩ := Kd.S_slice q1
         subst e8
         have HRD8 := hide ((rd_of_F (Kd.V_F (Kd.S_V (base' := 0) (Kd.S_bound q1)))).weaken (ok' := fun k => w7.heap.size ≤ k) (fun k hk => hk.2.1))
         have HO8 := hide (HO7.out.below q2)
         have HOK8 := hide (show ∀ k, w7.heap.size ≤ k → v7.ownBlock ≠ some k from fun k hk e => by have := (HO7.out.lt k e).2; omega)
         have HB8 := hide (HB7.out.trans (q2.mono (by have := HB7.out.size; have := HB0.out; omega)))
         clear q1 q2 HX5 HB7)
      | (have HX5 := HB6
         at_builtin
         refine wpList_append_one (ok := fun k => k < B0) (base := B0) w6 boxK rfl _ _ 23 rfl 33 _ 88 Try.underlying23 info_box rfl (by decide) (by decide) v5 row rfl HO6.out (gB 3) [.int .i64 1, .int .i64 3, .int .i64 0, .int .i64 10, .string ⟨#[]⟩, .string ⟨#[]⟩, .slice A6 0 c6] rfl (HK3.out _ _ _ _) (fun k hk e => by have := (HO6.out.lt k e).1; omega) (by have := HF.out.rowl; omega) (by have := HB6.out.size; have := HB0.out; omega) ?_
         intro v7 w7 q1 q2 q3
         have HO7 := hide q1
         have HB7 := hide (HB6.out.grown q2 (by have := HB6.out.size; have := HB0.out; omega) (fun k hk => (HO6.out.lt k hk).1))
         clear q1 q2 q3 HX5 HB6)
      | (go_at_call 18
         refine (frisketlaw11_blank.calls 3 1 3 0 10 ⟨#[]⟩ ⟨#[]⟩ [] w5 rfl).mono ?_
         rintro e w6 ⟨v6, rfl, q1, q2⟩
         obtain ⟨A6, c6, e6⟩ := Kd.R_slice q1
         subst e6
         have HO6 := hide (HO5.out.below q2)
         have HB6 := hide (HB5.out.trans (q2.mono (by have := HB5.out.size; have := HB0.out; omega)))
         clear q1 q2 HB5)
      | (at_builtin
         refine wpList_append_rd (ok := fun k => k < B0) (base := B0) (w4.alloc (.cells #[] 33)) boxK rfl _ _ 23 rfl 33 _ 88 Try.underlying23 info_box rfl (by decide) (by decide) _ [] rfl ⟨[], World.ownsRow_made w4 #[] 0 (Nat.le_of_eq HB0.out) (Nat.zero_le _) rfl, Kind.Reps.nil _ _ _⟩ A2 row.length c2 row rfl HRD.out HOK.out (by have := HF.out.rowl; simp; omega) (by have := HB0.out; simp; omega) ?_
         intro v5 w5 q1 q2 q3
         have HO5 := hide (show boxK.Own 33 w5 (fun k => k < B0) B0 v5 row from by simpa using q1)
         have HB5 := hide (HW0.out.grown q2 (by have := HB0.out; simp; omega) (fun k hk => by have h2 : w4.heap.size = k := Option.some.inj hk; have := HB0.out; omega))
         clear q1 q2 q3))
    obtain ⟨A9, c9, e9, hc9, -, -, -, hr9⟩ := HO9.out.form
    subst e9
    obtain ⟨whole, hwh⟩ : ∃ whole, whole = row ++ [gB 3] ++ rm := ⟨_, rfl⟩
    rw [← hwh] at hc9 hr9 ⊢
    have hwl : whole.length ≤ 241 := by have := HF.out.rowl; have := HF.out.rml; rw [hwh, List.length_append, List.length_append, List.length_singleton]; omega
    have hw6 : ∀ x ∈ whole, x.f6.length ≤ 9223372036854775807 := fun x hx => by
      rw [hwh] at hx
      rcases List.mem_append.1 hx with h1 | h1
      · rw [HSIX.out x h1]; exact Nat.zero_le _
      · rw [HF.out.rm6 x h1]; exact Nat.zero_le _
    have HC9 := hide hc9
    have HW9 := hide (C_boxes (Nat.le_trans hwl (by decide)) hw6 hr9)
    have HT2 := hide (show fill_Take.f whole (wrap64 (Int.tmod (IntKind.u64.wrap len) 200)) h.f0 h.f1 h.f2 h.f3 h.f4 h.f5 [] = some (line, left2, true, 0) from by rw [hwh, HF.out.ftake2 rfl, HF.out.fline rfl])
    have HW4 := hide (show Below w4.heap.size w4 w9 from by have h9 := HB9.out; rw [HB0.out] at h9; exact h9)
    clear hc9 hr9 hwl hw6 hwh HO9 HO8 HRD8 HOK8 HO7 HO6 HO5 HRD HOK HK3 HW0 HB9 HB8
    go_upto_region 11 with (first
      | (go_at_call 16
         refine (fill_Take.calls A9 c9 whole (wrap64 (Int.tmod (IntKind.u64.wrap len) 200)) h.f0 h.f1 h.f2 h.f3 h.f4 h.f5 A10 c10 [] line left2 true 0 w10 (Kd.C_below HW9.out Q10.out) HC9.out (Kd.R_reads' HS10.out).2.2 (Kd.R_reads' HS10.out).2.1 HT2.out).mono ?_
         rintro e w11 ⟨v11, v12, rfl, q1, q3, q2⟩
         obtain ⟨A11, c11, e11⟩ := Kd.S_slice q1
         subst e11
         obtain ⟨A12, c12, e12⟩ := Kd.S_slice q3
         subst e12
         have HS11 := hide (Kd.S_reads' q1).2
         have HS12 := hide (Kd.S_reads' q3).2
         have HB11 := hide (below_self HW4.out (below_self Q10.out q2))
         clear q1 q2 q3)
      | (go_at_call 17
         refine (frisketlaw11_hyphen.calls hn h.f0 h.f1 h.f2 h.f3 h.f4 h.f5 [] w9 HF.out.fhy).mono ?_
         rintro e w10 ⟨v10, rfl, q1, q2⟩
         have HS10 := hide q1
         obtain ⟨A10, c10, e10⟩ := Kd.R_slice q1
         subst e10
         have Q10 := hide q2
         clear q1 q2))
    have HL4' := hide (Kd.C_below HL4.out.2 HB11.out)
    have HL5' := hide (Kd.C_below HL5.out.2 HB11.out)
    have HC4 := hide HL4.out.1
    have HC5 := hide HL5.out.1
    have hlen := HF.out.flen rfl
    have hge : decide (left.length ≤ left2.length) = true := decide_eq_true hlen
    have hge2 : decide ((left.length : Int) ≤ (left2.length : Int)) = true := decide_eq_true (by omega)
    obtain ⟨i0, hi0, _, hsz0, _⟩ := info_parts info33
    have hcut := cut_to (P := Try.prog) 23 33 .i64 Try.underlying23 hi0 A12 left2.length c12 (left.length : Int) (by omega) (by omega) HS12.out.1
    rw [Int.toNat_natCast] at hcut
    have HLE := hide hlen
    have hCT := Kd.C_take (m := left.length) HS12.out.2 hlen
    rw [HF.out.fleft rfl] at hCT
    have HCT := hide hCT
    have HC12 := hide (show left.length ≤ c12 from Nat.le_trans hlen HS12.out.1)
    clear hlen hCT HL4 HL5 HS12 HSIX HRR
    go_wp2_with (first
      | (go_at_call 15
         refine (frisketlaw11_sane.calls true w14 rfl).mono ?_
         rintro e w15 ⟨rfl, q2⟩
         have HB15 := hide (below_self HB14.out q2)
         clear q2)
      | (have HX5 := HB13
         go_at_call 14
         refine (frisketref08_Same.calls K A12 c12 left A5 c5 left true w13 (Kd.C_below HCT.out HB13.out) HC12.out (Kd.C_below HL5'.out HB13.out) HC5.out HF.out.same2).mono ?_
         rintro e w14 ⟨rfl, q2⟩
         have HB14 := hide (below_self HB4.out (below_self HB11.out (below_self HB13.out q2)))
         clear q2 HX5 HB13)
      | (go_at_call 14
         refine (frisketref08_Same.calls K A11 c11 line A4 c4 line true w11 HS11.out.2 HS11.out.1 HL4'.out HC4.out HF.out.same1).mono ?_
         rintro e w13 ⟨rfl, q2⟩
         have HB13 := hide q2
         clear q2))
    go_ret
    exact ⟨rfl, HB15.out⟩
end Go.Proofs.YteadghhmoggjnaaB
end
