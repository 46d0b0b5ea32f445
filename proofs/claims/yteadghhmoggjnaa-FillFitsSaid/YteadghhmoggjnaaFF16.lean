import Derived.Test.YteadghhmoggjnaaFF2
import Derived.Test.YteadghhmoggjnaaFF14
import Derived.Test.YteadghhmoggjnaaFF13
import Derived.Test.YteadghhmoggjnaaFF15
section
section
namespace Go.Proofs.Yteadghhmoggjnaa.Q
open Go.RowKit Go.Proofs.YteadghhmoggjnaaW.PrintWords Go.Proofs.YteadghhmoggjnaaW.PrintLast Go.Proofs.YteadghhmoggjnaaW.PrintMore
attribute [local go_sem] max2_int max_two
set_option linter.unusedVariables false
set_option linter.unusedSimpArgs false
/-! ### frisketlaw11_a: function 37 -/
def frisketlaw11_a.f (a0 : Int) : Option (Int × Int × Int × Int × ByteArray × ByteArray × List Int) := some (0, a0, 0, 10, (⟨#[97]⟩ : ByteArray), (⟨#[]⟩ : ByteArray), ([] : List Int))
set_option maxHeartbeats 8000000 in
set_option maxRecDepth 100000 in
theorem frisketlaw11_a.calls (a0 : Int) (r1 : Int) (r2 : Int) (r3 : Int) (r4 : Int) (r5 : ByteArray) (r6 : ByteArray) (r7 : List Int) (w : World) (h : frisketlaw11_a.f a0 = some (r1, r2, r3, r4, r5, r6, r7)) :
    Calls Try.prog 37 #[.int .i64 a0] w fun e w' => ∃ v6_ : Value, e = .returned (.agg #[.int .i64 r1, .int .i64 r2, .int .i64 r3, .int .i64 r4, .string r5, .string r6, v6_]) ∧ Kd.R (Kd.int .i64) 3 w' w.heap.size (fun _ => True) v6_ r7 ∧ Below w.heap.size w w' := by
  have hu33 := Try.underlying33
  have HB := Aside0.mk (Below.refl w.heap.size w)
  have H : (some (0, a0, 0, 10, (⟨#[97]⟩ : ByteArray), (⟨#[]⟩ : ByteArray), ([] : List Int))) = some (r1, r2, r3, r4, r5, r6, r7) := h
  clear h
  simp only [Option.some.injEq, Prod.mk.injEq] at H
  obtain ⟨rfl, rfl, rfl, rfl, rfl, rfl, rfl⟩ := H
  go_enter Try.func37, Try.ntmps37
  go_wp2_with (first | ((with_reducible refine gate_dst (N := 2) rfl ?_); refine box_event ?hg (N := 2) ?hd (cs := #[.int .i64 0, .int .i64 0, .int .i64 0, .int .i64 0, .string (⟨#[]⟩ : ByteArray), .string (⟨#[]⟩ : ByteArray), .slice none 0 0]) (t := 33) ?hr ?_; (case hd => rfl); (case hg => rfl); (case hr => first | (go_simp; done) | (go_simp; rfl)); intro gb173 hg w2 hbox hb; have n0_ := Aside0.mk (below_step (by repeat (first | (with_reducible first | exact HB.out | apply below_alloc | apply pw_below_drewN | apply below_drew1) | exact HB.out)) hb); have n1_ := Aside0.mk (hbox); have n2_ := Aside0.mk ((by rw [hg]; exact (below_size (by repeat (first | (with_reducible first | exact HB.out | apply below_alloc | apply pw_below_drewN | apply below_drew1) | exact HB.out))) : w.heap.size ≤ gb173)); have n3_ := Aside0.mk ((by rw [hg]; exact (below_size (by repeat (first | (with_reducible first | exact HB.out | apply below_alloc | apply pw_below_drewN | apply below_drew1) | exact HB.out))) : w.heap.size ≤ gb173)); clear HB; have HB := n0_; have BK173 := n1_; have GW173 := n2_; have GE173 := n3_; clear n0_ n1_ n2_ n3_; clear hb hbox hg; have hcz3_0 : w2.cell? ⟨gb173, 0, none⟩ = some (.int .i64 0) := (blk_cell BK173.out 0).trans rfl; have hcz3_1 : w2.cell? ⟨gb173, 1, none⟩ = some (.int .i64 0) := (blk_cell BK173.out 1).trans rfl; have hcz3_2 : w2.cell? ⟨gb173, 2, none⟩ = some (.int .i64 0) := (blk_cell BK173.out 2).trans rfl; have hcz3_3 : w2.cell? ⟨gb173, 3, none⟩ = some (.int .i64 0) := (blk_cell BK173.out 3).trans rfl; have hcz3_4 : w2.cell? ⟨gb173, 4, none⟩ = some (.string (⟨#[]⟩ : ByteArray)) := (blk_cell BK173.out 4).trans rfl; have hcz3_5 : w2.cell? ⟨gb173, 5, none⟩ = some (.string (⟨#[]⟩ : ByteArray)) := (blk_cell BK173.out 5).trans rfl; have hcz3_6 : w2.cell? ⟨gb173, 6, none⟩ = some (.slice none 0 0) := (blk_cell BK173.out 6).trans rfl; have hfz3_0 := blk_frozen BK173.out 0; have hfz3_1 := blk_frozen BK173.out 1; have hfz3_2 := blk_frozen BK173.out 2; have hfz3_3 := blk_frozen BK173.out 3; have hfz3_4 := blk_frozen BK173.out 4; have hfz3_5 := blk_frozen BK173.out 5; have hfz3_6 := blk_frozen BK173.out 6))
  refine bodyPost_ret (results_cell_row rfl _ _ gb173 33 #[.int .i64 0, .int .i64 a0, .int .i64 0, .int .i64 10, .string (⟨#[97]⟩ : ByteArray), .string (⟨#[]⟩ : ByteArray), .slice none 0 0] (0, 0) _ rfl (by (with_reducible repeat (first | refine blk_drewN ?_ _ | refine blk_drew ?_ | refine blk_alloc ?_ _)); refine blk_put (cs := #[.int .i64 0, .int .i64 a0, .int .i64 0, .int .i64 10, .string (⟨#[97]⟩ : ByteArray), .string (⟨#[]⟩ : ByteArray), .slice none 0 0]) ?_ 6 _ rfl; (with_reducible repeat (first | refine blk_drewN ?_ _ | refine blk_drew ?_ | refine blk_alloc ?_ _)); refine blk_put (cs := #[.int .i64 0, .int .i64 a0, .int .i64 0, .int .i64 10, .string (⟨#[97]⟩ : ByteArray), .string (⟨#[]⟩ : ByteArray), .slice none 0 0]) ?_ 5 _ rfl; (with_reducible repeat (first | refine blk_drewN ?_ _ | refine blk_drew ?_ | refine blk_alloc ?_ _)); refine blk_put (cs := #[.int .i64 0, .int .i64 a0, .int .i64 0, .int .i64 10, .string (⟨#[]⟩ : ByteArray), .string (⟨#[]⟩ : ByteArray), .slice none 0 0]) ?_ 4 _ rfl; (with_reducible repeat (first | refine blk_drewN ?_ _ | refine blk_drew ?_ | refine blk_alloc ?_ _)); refine blk_put (cs := #[.int .i64 0, .int .i64 a0, .int .i64 0, .int .i64 0, .string (⟨#[]⟩ : ByteArray), .string (⟨#[]⟩ : ByteArray), .slice none 0 0]) ?_ 3 _ rfl; (with_reducible repeat (first | refine blk_drewN ?_ _ | refine blk_drew ?_ | refine blk_alloc ?_ _)); refine blk_put (cs := #[.int .i64 0, .int .i64 a0, .int .i64 0, .int .i64 0, .string (⟨#[]⟩ : ByteArray), .string (⟨#[]⟩ : ByteArray), .slice none 0 0]) ?_ 2 _ rfl; (with_reducible repeat (first | refine blk_drewN ?_ _ | refine blk_drew ?_ | refine blk_alloc ?_ _)); refine blk_put (cs := #[.int .i64 0, .int .i64 0, .int .i64 0, .int .i64 0, .string (⟨#[]⟩ : ByteArray), .string (⟨#[]⟩ : ByteArray), .slice none 0 0]) ?_ 1 _ rfl; (with_reducible repeat (first | refine blk_drewN ?_ _ | refine blk_drew ?_ | refine blk_alloc ?_ _)); refine blk_put (cs := #[.int .i64 0, .int .i64 0, .int .i64 0, .int .i64 0, .string (⟨#[]⟩ : ByteArray), .string (⟨#[]⟩ : ByteArray), .slice none 0 0]) ?_ 0 _ rfl; (with_reducible repeat (first | refine blk_drewN ?_ _ | refine blk_drew ?_ | refine blk_alloc ?_ _)); exact BK173.out) Try.underlying33 rfl (by kernel_rfl)) rfl ?_
  exact ⟨_, by first | rfl | (simp [errW_none, errW_some] <;> rfl) | (simp [*, errW_none, errW_some] <;> rfl), by first | exact Kd.R_nil _ _ _ _ _ | exact Kd.N_nil _ _ _ _ _ | exact Kd.V_nil _ _ _ _ _ | exact Kd.Q_nil _ _ _ _ _ | exact Kd.S_nil _ _ _ _ _, by repeat (first | (with_reducible first | exact HB.out | apply below_alloc | apply pw_below_drewN | apply below_drew1 | refine below_set ?_ GE173.out) | exact HB.out)⟩
end Go.Proofs.Yteadghhmoggjnaa.Q
end
section
/- The laws' fixed example: sane. -/
set_option linter.unusedVariables false
set_option linter.unusedSimpArgs false
namespace Go.Proofs.YteadghhmoggjnaaB
open Go.RowKit
open Go.Proofs.Yteadghhmoggjnaa.Q (S33 k33 z33 k33_open k33_mk k33_mkM k33_openF)
open Go.Proofs.YteadghhmoggjnaaW.PrintWords (Kd ReadsRow)
set_option maxHeartbeats 1600000
set_option maxRecDepth 1000000
def gA : S33 := ⟨0, 10, 0, 10, ⟨#[97]⟩, ⟨#[]⟩, []⟩
def gB (w : Int) : S33 := ⟨1, w, 0, 10, ⟨#[]⟩, ⟨#[]⟩, []⟩
theorem sane_take : Go.Proofs.Yteadghhmoggjnaa.Q.fill_Take.f [gA, gB 5, gA, gB 5, gA] 26 5 0 0 0 ⟨#[]⟩ ⟨#[]⟩ [] = some ([gA, gB 5, gA], [gA], true, 0) := by kernel_rfl
theorem sane_adj : Go.Proofs.Yteadghhmoggjnaa.Q.fill_Adjust.f [gA, gB 5, gA] 26 98 true = some ([gA, gB 6, gA], 0, 0) := by kernel_rfl
theorem five_rd {W : World} {g : Nat} {t : TypeId} {fr : Nat × Nat} {A0 A1 A2 A3 A4 : Option Addr} {c0 c1 c2 c3 c4 : Nat} (hb : W.heap[g]? = some (.cells (S33cells gA A0 c0 ++ (S33cells (gB 5) A1 c1 ++ (S33cells gA A2 c2 ++ (S33cells (gB 5) A3 c3 ++ S33cells gA A4 c4)))).toArray t fr)) :
    boxK.Rd W (fun _ => True) (some ⟨g, 0, none⟩) 5 [gA, gB 5, gA, gB 5, gA] := by
  have key : ∀ (i j : Nat) (u : Value), (S33cells gA A0 c0 ++ (S33cells (gB 5) A1 c1 ++ (S33cells gA A2 c2 ++ (S33cells (gB 5) A3 c3 ++ S33cells gA A4 c4))))[i * 7 + j]? = some u → W.cell? ⟨g, 0 + i * boxK.sz + j, none⟩ = some u := fun i j u h => by
    have e : 0 + i * boxK.sz + j = i * 7 + j := by show 0 + i * 7 + j = _; omega
    rw [e, blk_cell hb, List.getElem?_toArray]
    exact h
  refine ⟨rfl, fun _ => ⟨g, 0, rfl, trivial, blk_lt hb, fun i x hx => ?_⟩⟩
  rcases i with _ | _ | _ | _ | _ | i
  · obtain rfl : gA = x := by simpa using hx
    exact ⟨_, ⟨A0, c0, rfl, Nat.zero_le _, Kind.Rd.nil _ _ _ _⟩, fun j u hu => key 0 j u (by rcases j with _ | _ | _ | _ | _ | _ | _ | j <;> first | exact hu | (cases hu))⟩
  · obtain rfl : gB 5 = x := by simpa using hx
    exact ⟨_, ⟨A1, c1, rfl, Nat.zero_le _, Kind.Rd.nil _ _ _ _⟩, fun j u hu => key 1 j u (by rcases j with _ | _ | _ | _ | _ | _ | _ | j <;> first | exact hu | (cases hu))⟩
  · obtain rfl : gA = x := by simpa using hx
    exact ⟨_, ⟨A2, c2, rfl, Nat.zero_le _, Kind.Rd.nil _ _ _ _⟩, fun j u hu => key 2 j u (by rcases j with _ | _ | _ | _ | _ | _ | _ | j <;> first | exact hu | (cases hu))⟩
  · obtain rfl : gB 5 = x := by simpa using hx
    exact ⟨_, ⟨A3, c3, rfl, Nat.zero_le _, Kind.Rd.nil _ _ _ _⟩, fun j u hu => key 3 j u (by rcases j with _ | _ | _ | _ | _ | _ | _ | j <;> first | exact hu | (cases hu))⟩
  · obtain rfl : gA = x := by simpa using hx
    exact ⟨_, ⟨A4, c4, rfl, Nat.zero_le _, Kind.Rd.nil _ _ _ _⟩, fun j u hu => key 4 j u (by rcases j with _ | _ | _ | _ | _ | _ | _ | j <;> first | exact hu | (cases hu))⟩
  · simp at hx
theorem small3 (l : List S33) (h : l.all (fun x => decide (x.f6.length ≤ 9223372036854775807)) = true) : ∀ x ∈ l, x.f6.length ≤ 9223372036854775807 := fun x hx => of_decide_eq_true (List.all_eq_true.1 h x hx)
theorem nil_C (W : World) : (Kd.int .i64).C W none 0 [] := ⟨rfl, by decide, fun h => absurd h (by decide)⟩
theorem sane_any (w : World) : Calls Try.prog 15 #[] w fun e w' => e = .returned (.bool true) ∧ Below w.heap.size w w' := by
  have HB : Hid (Below w.heap.size w w) := hide (Below.refl _ _)
  go_enter Try.func15, Try.ntmps15
  go_wp2_with (first
    | (go_at_call 37
       refine (Go.Proofs.Yteadghhmoggjnaa.Q.frisketlaw11_a.calls 10 0 10 0 10 ⟨#[97]⟩ ⟨#[]⟩ [] _ rfl).mono ?_
       rintro e w2 ⟨v6, rfl, hv, hb⟩
       obtain ⟨A6, c6, rfl⟩ := Kd.R_slice hv
       have HB2 := hide (below_self HB.out hb)
       clear hv hb HB
       have HB := HB2
       clear HB2)
    | (go_at_call 18
       refine (Go.Proofs.Yteadghhmoggjnaa.Q.frisketlaw11_blank.calls 5 1 5 0 10 ⟨#[]⟩ ⟨#[]⟩ [] _ rfl).mono ?_
       rintro e w2 ⟨v6, rfl, hv, hb⟩
       obtain ⟨A6, c6, rfl⟩ := Kd.R_slice hv
       have HB2 := hide (below_self HB.out hb)
       clear hv hb HB
       have HB := HB2
       clear HB2)
    | (go_at_call 16
       refine (Go.Proofs.Yteadghhmoggjnaa.Q.fill_Take.calls (some ⟨w2.heap.size, 0, none⟩) 5 [gA, gB 5, gA, gB 5, gA] 26 5 0 0 0 ⟨#[]⟩ ⟨#[]⟩ none 0 [] [gA, gB 5, gA] [gA] true 0 _ (C_boxes (by decide) (small3 _ rfl) (five_rd (blk_new w2 _))) (by decide) (nil_C _) (Nat.le_refl _) sane_take).mono ?_
       rintro e w3 ⟨v0, v1, rfl, hs0, hs1, hb⟩
       obtain ⟨A7, c7, rfl, h7, hf7⟩ := Kd.S_V (base' := 0) hs0
       obtain ⟨A8, c8, rfl, -, -⟩ := Kd.S_V (base' := 0) hs1
       have HR7 := hide (rd_of_F hf7)
       have HB3 : Hid (Below w.heap.size w w3) := hide (below_self (below_self HB.out (below_a _)) hb)
       clear hs0 hs1 hb hf7 HB)
    | (go_at_call 11
       refine (Go.Proofs.Yteadghhmoggjnaa.Q.fill_Adjust.calls A7 c7 [gA, gB 5, gA] 26 98 true [gA, gB 6, gA] 0 0 _ (C_boxes (by decide) (small3 _ rfl) HR7.out) h7 sane_adj).mono ?_
       rintro e w4 ⟨v0, rfl, hs0, hb⟩
       obtain ⟨A9, c9, rfl, -, hf9⟩ := Kd.S_V (base' := 0) hs0
       obtain ⟨b9, o9, A10, c10, rfl, -, -, -, -, z1, -, -, -, -, -⟩ := box_cells (i := 1) (x := gB 6) (rd_of_F hf9) rfl
       have z1' : w4.cell? ⟨b9, o9 + 7 + 1, none⟩ = some (.int .i64 6) := z1
       have HB4 : Hid (Below w.heap.size w w4) := hide (below_self HB3.out hb)
       clear hs0 hb hf9 z1))
  go_ret
  exact ⟨rfl, HB4.out⟩
end Go.Proofs.YteadghhmoggjnaaB
end
section
namespace Go.Proofs.Yteadghhmoggjnaa.Q
open Go.RowKit Go.Proofs.YteadghhmoggjnaaW.PrintWords Go.Proofs.YteadghhmoggjnaaW.PrintLast Go.Proofs.YteadghhmoggjnaaW.PrintMore
attribute [local go_sem] max2_int max_two
set_option linter.unusedVariables false
set_option linter.unusedSimpArgs false
-- GIVEN by hand
-- GIVEN IMPORT Derived.Test.YteadghhmoggjnaaF18
/-! ### frisketlaw11_sane: function 15 -/
def frisketlaw11_sane.f  : Option (Bool) := some true
theorem frisketlaw11_sane.calls  (r : Bool) (w : World) (h : frisketlaw11_sane.f  = some r) :
    Calls Try.prog 15 #[] w fun e w' => e = .returned (.bool r) ∧ Below w.heap.size w w' := by
  obtain rfl := Option.some.inj h
  exact Go.Proofs.YteadghhmoggjnaaB.sane_any w
end Go.Proofs.Yteadghhmoggjnaa.Q
end
end
section
namespace Go.Proofs.Yteadghhmoggjnaa.Q
open Go.RowKit Go.Proofs.YteadghhmoggjnaaW.PrintWords Go.Proofs.YteadghhmoggjnaaW.PrintLast Go.Proofs.YteadghhmoggjnaaW.PrintMore
attribute [local go_sem] max2_int max_two
set_option linter.unusedVariables false
set_option linter.unusedSimpArgs false
/-! ### fill_blank: function 66 -/
def fill_blank.f (a0_0 : Int) (a0_1 : Int) (a0_2 : Int) (a0_3 : Int) (a0_4 : ByteArray) (a0_5 : ByteArray) (l0_6 : List Int) : Option (Bool) := if a0_0 = 1 then (some (a0_4.toList != ([126] : List UInt8))) else (some false)
set_option maxHeartbeats 8000000 in
set_option maxRecDepth 100000 in
theorem fill_blank.calls (a0_0 : Int) (a0_1 : Int) (a0_2 : Int) (a0_3 : Int) (a0_4 : ByteArray) (a0_5 : ByteArray) (A0_6 : Option Addr) (c0_6 : Nat) (l0_6 : List Int) (r : Bool) (w : World) (hr0_6 : Kd.C (Kd.int .i64) w A0_6 l0_6.length l0_6) (hc0_6 : l0_6.length ≤ c0_6) (h : fill_blank.f a0_0 a0_1 a0_2 a0_3 a0_4 a0_5 l0_6 = some r) :
  Calls Try.prog 66 #[.agg #[.int .i64 a0_0, .int .i64 a0_1, .int .i64 a0_2, .int .i64 a0_3, .string a0_4, .string a0_5, .slice A0_6 l0_6.length c0_6]] w fun e w' => e = .returned (.bool r) ∧ Below w.heap.size w w' := by
 have hu33 := Try.underlying33
 have HR0_6 := Aside0.mk hr0_6
 have HC0_6 := Aside0.mk hc0_6
 clear hr0_6 hc0_6
 have HB := Aside0.mk (Below.refl w.heap.size w)
 have H : (if a0_0 = 1 then (some (a0_4.toList != ([126] : List UInt8))) else (some false)) = some r := h
 clear h
 by_cases c2 : a0_0 = 1
 ·rw [if_pos c2] at H
  have c2b0 : (a0_0 == 1) = true := beq_iff_eq.mpr c2
  have c2b1 : (a0_0 != 1) = false := bne_eq_false_iff_eq.mpr c2
  clear c2
  obtain rfl := Option.some.inj H
  go_enter Try.func66, Try.ntmps66
  go_wp2_with (first | ((with_reducible refine gate_dst (N := 1) rfl ?_); refine box_event ?hg (N := 1) ?hd (cs := #[.int .i64 a0_0, .int .i64 a0_1, .int .i64 a0_2, .int .i64 a0_3, .string a0_4, .string a0_5, .slice A0_6 l0_6.length c0_6]) (t := 33) ?hr ?_; (case hd => rfl); (case hg => rfl); (case hr => first | (go_simp; done) | (go_simp; rfl)); intro gb146 hg w3 hbox hb; have n0_ := Aside0.mk (below_step (by repeat (first | (with_reducible first | exact HB.out | apply below_alloc | apply pw_below_drewN | apply below_drew1) | exact HB.out)) hb); have n1_ := Aside0.mk (hbox); have n2_ := Aside0.mk ((by rw [hg]; exact (below_size (by repeat (first | (with_reducible first | exact HB.out | apply below_alloc | apply pw_below_drewN | apply below_drew1) | exact HB.out))) : w.heap.size ≤ gb146)); have n3_ := Aside0.mk ((by rw [hg]; exact (below_size (by repeat (first | (with_reducible first | exact HB.out | apply below_alloc | apply pw_below_drewN | apply below_drew1) | exact HB.out))) : w.heap.size ≤ gb146)); clear HB; have HB := n0_; have BK146 := n1_; have GW146 := n2_; have GE146 := n3_; clear n0_ n1_ n2_ n3_; clear hb hbox hg; have hcz4_0 : w3.cell? ⟨gb146, 0, none⟩ = some (.int .i64 a0_0) := (blk_cell BK146.out 0).trans rfl; have hcz4_1 : w3.cell? ⟨gb146, 1, none⟩ = some (.int .i64 a0_1) := (blk_cell BK146.out 1).trans rfl; have hcz4_2 : w3.cell? ⟨gb146, 2, none⟩ = some (.int .i64 a0_2) := (blk_cell BK146.out 2).trans rfl; have hcz4_3 : w3.cell? ⟨gb146, 3, none⟩ = some (.int .i64 a0_3) := (blk_cell BK146.out 3).trans rfl; have hcz4_4 : w3.cell? ⟨gb146, 4, none⟩ = some (.string a0_4) := (blk_cell BK146.out 4).trans rfl; have hcz4_5 : w3.cell? ⟨gb146, 5, none⟩ = some (.string a0_5) := (blk_cell BK146.out 5).trans rfl; have hcz4_6 : w3.cell? ⟨gb146, 6, none⟩ = some (.slice A0_6 l0_6.length c0_6) := (blk_cell BK146.out 6).trans rfl; have hfz4_0 := blk_frozen BK146.out 0; have hfz4_1 := blk_frozen BK146.out 1; have hfz4_2 := blk_frozen BK146.out 2; have hfz4_3 := blk_frozen BK146.out 3; have hfz4_4 := blk_frozen BK146.out 4; have hfz4_5 := blk_frozen BK146.out 5; have hfz4_6 := blk_frozen BK146.out 6))
  go_ret
  exact ⟨by first | rfl | (simp [errW_none, errW_some] <;> rfl) | (simp [*, errW_none, errW_some] <;> rfl), by repeat (first | (with_reducible first | exact HB.out | apply below_alloc | apply pw_below_drewN | apply below_drew1 | refine below_set ?_ GE146.out) | exact HB.out)⟩
 ·rw [if_neg c2] at H
  have c2b0 : (a0_0 == 1) = false := beq_eq_false_iff_ne.mpr c2
  have c2b1 : (a0_0 != 1) = true := bne_iff_ne.mpr c2
  obtain rfl := Option.some.inj H
  go_enter Try.func66, Try.ntmps66
  go_wp2_with (first | ((with_reducible refine gate_dst (N := 1) rfl ?_); refine box_event ?hg (N := 1) ?hd (cs := #[.int .i64 a0_0, .int .i64 a0_1, .int .i64 a0_2, .int .i64 a0_3, .string a0_4, .string a0_5, .slice A0_6 l0_6.length c0_6]) (t := 33) ?hr ?_; (case hd => rfl); (case hg => rfl); (case hr => first | (go_simp; done) | (go_simp; rfl)); intro gb146 hg w5 hbox hb; have n0_ := Aside0.mk (below_step (by repeat (first | (with_reducible first | exact HB.out | apply below_alloc | apply pw_below_drewN | apply below_drew1) | exact HB.out)) hb); have n1_ := Aside0.mk (hbox); have n2_ := Aside0.mk ((by rw [hg]; exact (below_size (by repeat (first | (with_reducible first | exact HB.out | apply below_alloc | apply pw_below_drewN | apply below_drew1) | exact HB.out))) : w.heap.size ≤ gb146)); have n3_ := Aside0.mk ((by rw [hg]; exact (below_size (by repeat (first | (with_reducible first | exact HB.out | apply below_alloc | apply pw_below_drewN | apply below_drew1) | exact HB.out))) : w.heap.size ≤ gb146)); clear HB; have HB := n0_; have BK146 := n1_; have GW146 := n2_; have GE146 := n3_; clear n0_ n1_ n2_ n3_; clear hb hbox hg; have hcz6_0 : w5.cell? ⟨gb146, 0, none⟩ = some (.int .i64 a0_0) := (blk_cell BK146.out 0).trans rfl; have hcz6_1 : w5.cell? ⟨gb146, 1, none⟩ = some (.int .i64 a0_1) := (blk_cell BK146.out 1).trans rfl; have hcz6_2 : w5.cell? ⟨gb146, 2, none⟩ = some (.int .i64 a0_2) := (blk_cell BK146.out 2).trans rfl; have hcz6_3 : w5.cell? ⟨gb146, 3, none⟩ = some (.int .i64 a0_3) := (blk_cell BK146.out 3).trans rfl; have hcz6_4 : w5.cell? ⟨gb146, 4, none⟩ = some (.string a0_4) := (blk_cell BK146.out 4).trans rfl; have hcz6_5 : w5.cell? ⟨gb146, 5, none⟩ = some (.string a0_5) := (blk_cell BK146.out 5).trans rfl; have hcz6_6 : w5.cell? ⟨gb146, 6, none⟩ = some (.slice A0_6 l0_6.length c0_6) := (blk_cell BK146.out 6).trans rfl; have hfz6_0 := blk_frozen BK146.out 0; have hfz6_1 := blk_frozen BK146.out 1; have hfz6_2 := blk_frozen BK146.out 2; have hfz6_3 := blk_frozen BK146.out 3; have hfz6_4 := blk_frozen BK146.out 4; have hfz6_5 := blk_frozen BK146.out 5; have hfz6_6 := blk_frozen BK146.out 6))
  go_ret
  exact ⟨by first | rfl | (simp [errW_none, errW_some] <;> rfl) | (simp [*, errW_none, errW_some] <;> rfl), by repeat (first | (with_reducible first | exact HB.out | apply below_alloc | apply pw_below_drewN | apply below_drew1 | refine below_set ?_ GE146.out) | exact HB.out)⟩
end Go.Proofs.Yteadghhmoggjnaa.Q
end
section
namespace Go.Proofs.Yteadghhmoggjnaa.Q
open Go.RowKit Go.Proofs.YteadghhmoggjnaaW.PrintWords Go.Proofs.YteadghhmoggjnaaW.PrintLast Go.Proofs.YteadghhmoggjnaaW.PrintMore
attribute [local go_sem] max2_int max_two
set_option linter.unusedVariables false
set_option linter.unusedSimpArgs false
/-! ### fill_rest: function 40 -/
def fill_rest.l0 : Nat → List (S33) → Option ((List (S33)))
 | 0, _ => none
 | k + 1, x0 => if (x0.length : Int) > 0 then (if 0 < (x0.length : Int) then ((fill_blank.f ((rd_T33 x0 0).f0) ((rd_T33 x0 0).f1) ((rd_T33 x0 0).f2) ((rd_T33 x0 0).f3) ((rd_T33 x0 0).f4) ((rd_T33 x0 0).f5) ((rd_T33 x0 0).f6)).bind fun t148 => (if t148 = true then (if 1 ≤ (x0.length : Int) then (fill_rest.l0 k (x0.drop 1)) else (none)) else (some x0))) else (none)) else (some x0)
def fill_rest.f (k : Nat) (l0 : List (S33)) : Option ((List (S33))) := fill_rest.l0 k l0
theorem fill_rest.mono_l : ∀ k, (∀ y0, LeO (fill_rest.l0 k y0) (fill_rest.l0 (k + 1) y0))
 | 0 => fun _ r h => by simp [fill_rest.l0] at h
 | k + 1 => by
  have ih0 := fill_rest.mono_l k
  ·intro y0
   unfold fill_rest.l0
   repeat' first
   | (with_reducible exact ih0 _)
   | (with_reducible exact LeO.refl _)
   | (with_reducible exact LeO.none _)
   | (with_reducible refine LeO.ite ?_ ?_)
   | (with_reducible refine LeO.bind ?_ (fun _ => ?_))
   | exact ih0 _
   | exact LeO.none _
   | refine LeO.ite ?_ ?_
   | refine LeO.bind ?_ (fun _ => ?_)
theorem fill_rest.mono : ∀ a0 k, LeO (fill_rest.f k a0) (fill_rest.f (k + 1) a0) := by
 intro a0 k
 have ih0 := fill_rest.mono_l k
 unfold fill_rest.f
 repeat' first
   | (with_reducible exact ih0 _)
   | (with_reducible exact LeO.refl _)
   | (with_reducible exact LeO.none _)
   | (with_reducible refine LeO.ite ?_ ?_)
   | (with_reducible refine LeO.bind ?_ (fun _ => ?_))
   | exact ih0 _
   | exact LeO.none _
   | refine LeO.ite ?_ ?_
   | refine LeO.bind ?_ (fun _ => ?_)
set_option maxHeartbeats 8000000 in
set_option maxRecDepth 100000 in
theorem fill_rest.calls (k : Nat) (P0_ : Nat → Prop) (A0 : Option Addr) (c0 : Nat) (l0 : List (S33)) (r : List (S33)) (w : World) (hs0 : Kd.V k33 33 w w.heap.size (fun k_ => P0_ k_) (.slice A0 l0.length c0) l0) (h : fill_rest.f k l0 = some r) :
  Calls Try.prog 40 #[.slice A0 l0.length c0] w fun e w' => ∃ v0_ : Value, e = .returned (v0_) ∧ Kd.V k33 33 w' w.heap.size (fun k_ => (P0_ k_ ∨ w.heap.size ≤ k_)) v0_ r ∧ Below w.heap.size w w' := by
 have hu33 := Try.underlying33
 have HO0 := Aside0.mk (show Kd.V k33 33 w w.heap.size (fun k_ => (P0_ k_ ∨ w.heap.size ≤ k_)) (.slice A0 l0.length c0) l0 from Kd.V_mono hs0 (fun k_ hk => .inl hk))
 have HB := Aside0.mk (Below.refl w.heap.size w)
 have H : (fill_rest.l0 k l0) = some r := h
 clear h
 have H' := Aside0.mk H
 clear H
 go_enter Try.func40, Try.ntmps40
 go_wp2
 go_loopg [0] k (fun kq v0 w' => ∃ (x0_1 : List (S33)), Aside0 (fill_rest.l0 kq x0_1 = some r) ∧ Aside0 (kq ≤ k) ∧ Aside0 (Kd.V k33 33 w' w.heap.size (fun k_ => (P0_ k_ ∨ w.heap.size ≤ k_)) v0 x0_1) ∧ Aside0 (Below w.heap.size w w'))
 case atStart => exact ⟨(l0), H', ⟨Nat.le_refl _⟩, ⟨by (with_reducible repeat (first | apply Kd.V_alloc | apply Kd.V_drewN | apply Kd.V_drew)); exact HO0.out⟩, ⟨by repeat (first | (with_reducible first | exact HB.out | apply below_alloc | apply pw_below_drewN | apply below_drew1) | exact HB.out)⟩⟩
 case round =>
  clear H'
  obtain ⟨x0_1, HA, HK1, HO_0, HB⟩ := hrel
  cases gk with
  | zero => exact absurd HA.out (by simp [fill_rest.l0])
  | succ k1 =>
   have H := HA.out
   clear HA
   simp only [fill_rest.l0] at H
   by_cases c2 : (x0_1.length : Int) > 0
   ·rw [if_pos c2] at H
    have c2b0 : decide (0 < (x0_1.length : Int)) = true := decide_eq_true c2
    have c2b1 : decide (0 < x0_1.length) = true := decide_eq_true (by omega)
    clear c2
    by_cases c3 : 0 < (x0_1.length : Int)
    ·rw [if_pos c3] at H
     have c3b0 : decide (0 < (x0_1.length : Int)) = true := decide_eq_true c3
     have c3b1 : decide (0 < x0_1.length) = true := decide_eq_true (by omega)
     clear c3
     replace H := Option.bind_eq_some_iff.mp H
     obtain ⟨t148, A40, H⟩ := H
     replace H : (if t148 = true then (if 1 ≤ (x0_1.length : Int) then (fill_rest.l0 k1 (x0_1.drop 1)) else (none)) else (some x0_1)) = some r := H
     have A4 := Aside0.mk A40
     clear A40
     by_cases c5 : t148 = true
     ·subst c5
      have H1 : (if 1 ≤ (x0_1.length : Int) then (fill_rest.l0 k1 (x0_1.drop 1)) else (none)) = some r := by rw [if_pos rfl] at H; exact H
      clear H
      have H := H1
      clear H1
      by_cases c6 : 1 ≤ (x0_1.length : Int)
      ·rw [if_pos c6] at H
       have c6b0 := eq_true c6
       have c6b1 : decide (1 ≤ (x0_1.length : Int)) = true := decide_eq_true c6
       clear c6
       obtain ⟨y149, hy149⟩ : ∃ y_ : List (S33), y_ = (x0_1.drop 1) := ⟨_, rfl⟩
       replace H : (fill_rest.l0 k1 y149) = some r := by first | (rw [hy149]; with_reducible exact H) | (have H2_ := (Option.bind_some _ _).symm.trans H; rw [hy149]; with_reducible exact H2_) | (have H2_ := (Option.bind_some _ _).symm.trans H; with_reducible exact H2_) | with_reducible exact H | (rw [hy149]; exact H) | exact H
       have Ny149 := Aside0.mk hy149
       clear hy149
       have H' := Aside0.mk H
       clear H
       obtain ⟨Ao7, co7, eo7⟩ := Kd.V_slice HO_0.out
       subst eo7
       have p147 : 0 ≤ (0 : Int) := (by omega)
       have q147 : 0 < (x0_1.length : Int) := of_decide_eq_true (by first | (with_reducible assumption) | assumption)
       obtain ⟨ad147, A147_6, c147_6, e147, hx147_0, hx147_1, hx147_2, hx147_3, hx147_4, hx147_5, hx147_6, hl147_6, hi147_6⟩ := at_T33 (Kd.V_reads' HO_0.out).2.2 0 p147 q147
       cases e147
       obtain ⟨ce147, hce147, hMe147, hcc147⟩ := Kd.V_get HO_0.out z33 0 p147 (by first | exact q147 | exact of_decide_eq_true (by first | (with_reducible assumption) | assumption) | (have e_ := (Kd.V_reads' HO_0.out).1; omega))
       obtain ⟨ua147_6, uc147_6, rfl, ul147_6, ge147_6⟩ := k33_openF hMe147
       have hv147_6 := hcc147 6 _ rfl
       rw [add_field _ _ 6 (by omega)] at hv147_6
       replace hv147_6 := Option.some.inj (hv147_6.symm.trans hx147_6)
       injection hv147_6 with hva_ hvn_ hvc_
       rw [hva_] at ge147_6
       rw [hvc_] at ul147_6
       have HL147_6 := Aside0.mk (show Kd.V (Kd.int .i64) 3 _ w.heap.size _ _ ((rd_T33 x0_1 0).f6) from Kd.V_mk ul147_6 ge147_6)
       clear hva_ hvn_ hvc_ ge147_6 ul147_6
       clear hcc147 hce147
       have qi147 : (0 < x0_1.length) = True := eq_true (by omega)
       (try rw [show ((0 : Int)).toNat = 0 from rfl] at hx147_0)
       (try rw [show 0 * 7 = 0 from rfl] at hx147_0)
       (try rw [Addr.add_zero'] at hx147_0)
       (try rw [show ((0 : Int)).toNat = 0 from rfl] at hx147_1)
       (try rw [show 0 * 7 = 0 from rfl] at hx147_1)
       (try rw [Addr.add_zero'] at hx147_1)
       (try rw [show ((0 : Int)).toNat = 0 from rfl] at hx147_2)
       (try rw [show 0 * 7 = 0 from rfl] at hx147_2)
       (try rw [Addr.add_zero'] at hx147_2)
       (try rw [show ((0 : Int)).toNat = 0 from rfl] at hx147_3)
       (try rw [show 0 * 7 = 0 from rfl] at hx147_3)
       (try rw [Addr.add_zero'] at hx147_3)
       (try rw [show ((0 : Int)).toNat = 0 from rfl] at hx147_4)
       (try rw [show 0 * 7 = 0 from rfl] at hx147_4)
       (try rw [Addr.add_zero'] at hx147_4)
       (try rw [show ((0 : Int)).toNat = 0 from rfl] at hx147_5)
       (try rw [show 0 * 7 = 0 from rfl] at hx147_5)
       (try rw [Addr.add_zero'] at hx147_5)
       (try rw [show ((0 : Int)).toNat = 0 from rfl] at hx147_6)
       (try rw [show 0 * 7 = 0 from rfl] at hx147_6)
       (try rw [Addr.add_zero'] at hx147_6)
       have HR147_6 := Aside0.mk hi147_6
       have HC147_6 := Aside0.mk hl147_6
       clear hi147_6 hl147_6
       replace p147 := eq_true p147
       replace q147 := eq_true q147
       go_wp2_with (first | (go_at_call 66; (with_reducible refine (fill_blank.calls ((rd_T33 x0_1 0).f0) ((rd_T33 x0_1 0).f1) ((rd_T33 x0_1 0).f2) ((rd_T33 x0_1 0).f3) ((rd_T33 x0_1 0).f4) ((rd_T33 x0_1 0).f5) _ _ ((rd_T33 x0_1 0).f6) true _ ?side1 ?side2 A4.out).mono ?_); (case side1 => repeat (first | exact (by repeat (first | (with_reducible exact HR147_6.out) | (with_reducible refine Kd.C_alloc ?_ _) | (with_reducible refine Kd.C_drewN ?_ _) | (with_reducible refine Kd.C_drew ?_) | exact HR147_6.out)) | (with_reducible refine Kd.C_alloc ?_ _) | (with_reducible refine Kd.C_drewN ?_ _) | (with_reducible refine Kd.C_drew ?_))); (case side2 => exact HC147_6.out); rintro e w8 ⟨rfl, hb⟩; have n0_ := Aside0.mk (Kd.V_below (by (with_reducible repeat (first | apply Kd.V_alloc | apply Kd.V_drewN | apply Kd.V_drew)); exact HO_0.out) hb); have n1_ := Aside0.mk (Kd.V_below (by (with_reducible repeat (first | apply Kd.V_alloc | apply Kd.V_drewN | apply Kd.V_drew)); exact HL147_6.out) hb); have n2_ := Aside0.mk (Kd.C_below (by repeat (first | (with_reducible exact HR147_6.out) | (with_reducible refine Kd.C_alloc ?_ _) | (with_reducible refine Kd.C_drewN ?_ _) | (with_reducible refine Kd.C_drew ?_) | exact HR147_6.out)) hb); have n3_ := Aside0.mk (below_step (by repeat (first | (with_reducible first | exact HB.out | apply below_alloc | apply pw_below_drewN | apply below_drew1) | exact HB.out)) hb); clear HO_0; clear HL147_6; clear HR147_6; clear HB; have HO_0 := n0_; have HL147_6 := n1_; have HR147_6 := n2_; have HB := n3_; clear n0_ n1_ n2_ n3_; (try clear hb); (try clear hb2); (try clear hk); (try clear hi); have q9 : (1 : Int) ≤ ((x0_1.length : Int) : Int) := of_decide_eq_true (by first | (with_reducible assumption) | assumption); obtain ⟨i09, hi09, _, hsz9, _⟩ := info_parts info33; have hroom9 : x0_1.length ≤ co7 := (Kd.V_reads' HO_0.out).2.1; have hC9 : Kd.F k33 _ _ (some ad147) x0_1.length x0_1 := (Kd.V_at (base := w.heap.size) HO_0.out).2.2; have hcut9 := cut_from (P := Try.prog) 23 33 .i64 Try.underlying23 hi09 7 hsz9 (some ad147) x0_1.length co7 1 (by omega) q9; have hr9 := Kd.F_cut (m := (1 : Int).toNat) (c := co7) hC9 (by omega) hroom9; obtain ⟨A9, hA9⟩ : ∃ A1, A1 = (if co7 = (1 : Int).toNat then (some ad147) else ((some ad147) : Option Addr).map (·.add ((1 : Int).toNat * 7))) := ⟨_, rfl⟩; obtain ⟨c9, hc9⟩ : ∃ c1, c1 = co7 - (1 : Int).toNat := ⟨_, rfl⟩; have hy9 : y149.length = x0_1.length - (1 : Int).toNat := (by rw [Ny149.out, List.length_drop] <;> omega); rw [show (x0_1).drop (1 : Int).toNat = y149 from Ny149.out.symm] at hr9; replace hr9 : Kd.F k33 _ _ A9 y149.length y149 := (by rw [hA9]; exact hr9); rw [← hy9, ← hA9, ← hc9] at hcut9; have HO153 := Aside0.mk (show Kd.V k33 33 _ w.heap.size _ (.slice A9 y149.length c9) y149 from Kd.V_mk (by rw [hy9, hc9]; exact Nat.sub_le_sub_right hroom9 _) hr9); have HC153 := Aside0.mk (show y149.length ≤ c9 from by rw [hy9, hc9]; exact Nat.sub_le_sub_right hroom9 _); clear hr9 hC9 hroom9 hi09 hsz9 hc9; have KY9 := Aside0.mk hy9; have KA9 := Aside0.mk hA9; clear hy9 hA9; replace q9 := eq_true q9))
       go_roundg k1
       case measure => have := HK1.out; omega
       case rel => exact ⟨(y149), H', ⟨by have := HK1.out; omega⟩, ⟨by (with_reducible repeat (first | apply Kd.V_alloc | apply Kd.V_drewN | apply Kd.V_drew)); exact HO153.out⟩, ⟨by repeat (first | (with_reducible first | exact HB.out | apply below_alloc | apply pw_below_drewN | apply below_drew1) | exact HB.out)⟩⟩
      ·rw [if_neg c6] at H
       exact absurd H (by simp)
     ·replace c5 := Bool.eq_false_iff.mpr c5
      subst c5
      have H1 : (some x0_1) = some r := by rw [if_neg (show ¬ (false = true) by decide)] at H; exact H
      clear H
      have H := H1
      clear H1
      obtain rfl := Option.some.inj H
      obtain ⟨Ao10, co10, eo10⟩ := Kd.V_slice HO_0.out
      subst eo10
      have p147 : 0 ≤ (0 : Int) := (by omega)
      have q147 : 0 < (x0_1.length : Int) := of_decide_eq_true (by first | (with_reducible assumption) | assumption)
      obtain ⟨ad147, A147_6, c147_6, e147, hx147_0, hx147_1, hx147_2, hx147_3, hx147_4, hx147_5, hx147_6, hl147_6, hi147_6⟩ := at_T33 (Kd.V_reads' HO_0.out).2.2 0 p147 q147
      cases e147
      obtain ⟨ce147, hce147, hMe147, hcc147⟩ := Kd.V_get HO_0.out z33 0 p147 (by first | exact q147 | exact of_decide_eq_true (by first | (with_reducible assumption) | assumption) | (have e_ := (Kd.V_reads' HO_0.out).1; omega))
      obtain ⟨ua147_6, uc147_6, rfl, ul147_6, ge147_6⟩ := k33_openF hMe147
      have hv147_6 := hcc147 6 _ rfl
      rw [add_field _ _ 6 (by omega)] at hv147_6
      replace hv147_6 := Option.some.inj (hv147_6.symm.trans hx147_6)
      injection hv147_6 with hva_ hvn_ hvc_
      rw [hva_] at ge147_6
      rw [hvc_] at ul147_6
      have HL147_6 := Aside0.mk (show Kd.V (Kd.int .i64) 3 _ w.heap.size _ _ ((rd_T33 x0_1 0).f6) from Kd.V_mk ul147_6 ge147_6)
      clear hva_ hvn_ hvc_ ge147_6 ul147_6
      clear hcc147 hce147
      have qi147 : (0 < x0_1.length) = True := eq_true (by omega)
      (try rw [show ((0 : Int)).toNat = 0 from rfl] at hx147_0)
      (try rw [show 0 * 7 = 0 from rfl] at hx147_0)
      (try rw [Addr.add_zero'] at hx147_0)
      (try rw [show ((0 : Int)).toNat = 0 from rfl] at hx147_1)
      (try rw [show 0 * 7 = 0 from rfl] at hx147_1)
      (try rw [Addr.add_zero'] at hx147_1)
      (try rw [show ((0 : Int)).toNat = 0 from rfl] at hx147_2)
      (try rw [show 0 * 7 = 0 from rfl] at hx147_2)
      (try rw [Addr.add_zero'] at hx147_2)
      (try rw [show ((0 : Int)).toNat = 0 from rfl] at hx147_3)
      (try rw [show 0 * 7 = 0 from rfl] at hx147_3)
      (try rw [Addr.add_zero'] at hx147_3)
      (try rw [show ((0 : Int)).toNat = 0 from rfl] at hx147_4)
      (try rw [show 0 * 7 = 0 from rfl] at hx147_4)
      (try rw [Addr.add_zero'] at hx147_4)
      (try rw [show ((0 : Int)).toNat = 0 from rfl] at hx147_5)
      (try rw [show 0 * 7 = 0 from rfl] at hx147_5)
      (try rw [Addr.add_zero'] at hx147_5)
      (try rw [show ((0 : Int)).toNat = 0 from rfl] at hx147_6)
      (try rw [show 0 * 7 = 0 from rfl] at hx147_6)
      (try rw [Addr.add_zero'] at hx147_6)
      have HR147_6 := Aside0.mk hi147_6
      have HC147_6 := Aside0.mk hl147_6
      clear hi147_6 hl147_6
      replace p147 := eq_true p147
      replace q147 := eq_true q147
      go_wp2_with (first | (go_at_call 66; (with_reducible refine (fill_blank.calls ((rd_T33 x0_1 0).f0) ((rd_T33 x0_1 0).f1) ((rd_T33 x0_1 0).f2) ((rd_T33 x0_1 0).f3) ((rd_T33 x0_1 0).f4) ((rd_T33 x0_1 0).f5) _ _ ((rd_T33 x0_1 0).f6) false _ ?side1 ?side2 A4.out).mono ?_); (case side1 => repeat (first | exact (by repeat (first | (with_reducible exact HR147_6.out) | (with_reducible refine Kd.C_alloc ?_ _) | (with_reducible refine Kd.C_drewN ?_ _) | (with_reducible refine Kd.C_drew ?_) | exact HR147_6.out)) | (with_reducible refine Kd.C_alloc ?_ _) | (with_reducible refine Kd.C_drewN ?_ _) | (with_reducible refine Kd.C_drew ?_))); (case side2 => exact HC147_6.out); rintro e w11 ⟨rfl, hb⟩; have n0_ := Aside0.mk (Kd.V_below (by (with_reducible repeat (first | apply Kd.V_alloc | apply Kd.V_drewN | apply Kd.V_drew)); exact HO_0.out) hb); have n1_ := Aside0.mk (Kd.V_below (by (with_reducible repeat (first | apply Kd.V_alloc | apply Kd.V_drewN | apply Kd.V_drew)); exact HL147_6.out) hb); have n2_ := Aside0.mk (Kd.C_below (by repeat (first | (with_reducible exact HR147_6.out) | (with_reducible refine Kd.C_alloc ?_ _) | (with_reducible refine Kd.C_drewN ?_ _) | (with_reducible refine Kd.C_drew ?_) | exact HR147_6.out)) hb); have n3_ := Aside0.mk (below_step (by repeat (first | (with_reducible first | exact HB.out | apply below_alloc | apply pw_below_drewN | apply below_drew1) | exact HB.out)) hb); clear HO_0; clear HL147_6; clear HR147_6; clear HB; have HO_0 := n0_; have HL147_6 := n1_; have HR147_6 := n2_; have HB := n3_; clear n0_ n1_ n2_ n3_; (try clear hb); (try clear hb2); (try clear hk); (try clear hi)))
      go_ret
      exact ⟨_, by first | rfl | (simp [errW_none, errW_some] <;> rfl) | (simp [*, errW_none, errW_some] <;> rfl), by (with_reducible repeat (first | apply Kd.V_alloc | apply Kd.V_drewN | apply Kd.V_drew)); exact HO_0.out, by repeat (first | (with_reducible first | exact HB.out | apply below_alloc | apply pw_below_drewN | apply below_drew1) | exact HB.out)⟩
    ·rw [if_neg c3] at H
     exact absurd H (by simp)
   ·rw [if_neg c2] at H
    have c2b0 : decide (0 < (x0_1.length : Int)) = false := decide_eq_false c2
    have c2b1 : decide (0 < x0_1.length) = false := decide_eq_false (by omega)
    clear c2
    obtain rfl := Option.some.inj H
    obtain ⟨Ao12, co12, eo12⟩ := Kd.V_slice HO_0.out
    subst eo12
    go_wp2
    go_ret
    exact ⟨_, by first | rfl | (simp [errW_none, errW_some] <;> rfl) | (simp [*, errW_none, errW_some] <;> rfl), by (with_reducible repeat (first | apply Kd.V_alloc | apply Kd.V_drewN | apply Kd.V_drew)); exact HO_0.out, by repeat (first | (with_reducible first | exact HB.out | apply below_alloc | apply pw_below_drewN | apply below_drew1) | exact HB.out)⟩
end Go.Proofs.Yteadghhmoggjnaa.Q
end
