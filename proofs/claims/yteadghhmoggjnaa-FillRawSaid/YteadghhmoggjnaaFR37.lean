import Derived.Test.YteadghhmoggjnaaFR10
import Derived.Test.YteadghhmoggjnaaFR5
import Derived.Test.YteadghhmoggjnaaFR18
import Derived.Test.YteadghhmoggjnaaFR14
import Derived.Test.YteadghhmoggjnaaFR27
set_option linter.unusedVariables false
set_option linter.unusedSimpArgs false
section
section
namespace Go.Proofs.Yteadghhmoggjnaa.Q
open Go.RowKit Go.Proofs.YteadghhmoggjnaaW.PrintWords Go.Proofs.YteadghhmoggjnaaW.PrintLast Go.Proofs.YteadghhmoggjnaaW.PrintMore
attribute [local go_sem] max2_int max_two
set_option maxHeartbeats 8000000
set_option maxRecDepth 100000
def w_a.f (a0 : Int) : Option (Int × Int × Int × Int × ByteArray × ByteArray × List Int) := some (0, a0, 0, 10, (⟨#[97]⟩ : ByteArray), (⟨#[]⟩ : ByteArray), ([] : List Int))
theorem w_a.calls (a0 : Int) (r1 : Int) (r2 : Int) (r3 : Int) (r4 : Int) (r5 : ByteArray) (r6 : ByteArray) (r7 : List Int) (w : World) (h : w_a.f a0 = some (r1, r2, r3, r4, r5, r6, r7)) :
  Calls Try.prog 37 #[.int .i64 a0] w fun e w' => ∃ v6_ : Value, e = .returned (.agg #[.int .i64 r1, .int .i64 r2, .int .i64 r3, .int .i64 r4, .string r5, .string r6, v6_]) ∧ Kd.R (Kd.int .i64) 3 w' w.heap.size (fun _ => True) v6_ r7 ∧ Below w.heap.size w w' := by
 have hu33 := Try.underlying33
 have HB := As.mk (Below.refl w.heap.size w)
 have H : (some (0, a0, 0, 10, (⟨#[97]⟩ : ByteArray), (⟨#[]⟩ : ByteArray), ([] : List Int))) = some (r1, r2, r3, r4, r5, r6, r7) := h
 clear h
 simp only [Option.some.injEq, Prod.mk.injEq] at H
 obtain ⟨rfl, rfl, rfl, rfl, rfl, rfl, rfl⟩ := H
 go_enter Try.func37, Try.ntmps37
 go_wp2_with (first | ((with_reducible refine gate_dst (N := 2) rfl ?_); refine box_event ?hg (N := 2) ?hd (cs := #[.int .i64 0, .int .i64 0, .int .i64 0, .int .i64 0, .string (⟨#[]⟩ : ByteArray), .string (⟨#[]⟩ : ByteArray), .slice none 0 0]) (t := 33) ?hr ?_; (case hd => rfl); (case hg => rfl); (case hr => first | (go_simp; done) | (go_simp; rfl)); intro gb173 hg w2 hbox hb; have n0_ := As.mk (below_step (by repeat (first | (with_reducible first | exact HB.out | apply below_alloc | apply pw_below_drewN | apply below_drew1) | exact HB.out)) hb); have n1_ := As.mk (hbox); have n2_ := As.mk ((by rw [hg]; exact (below_size (by repeat (first | (with_reducible first | exact HB.out | apply below_alloc | apply pw_below_drewN | apply below_drew1) | exact HB.out))) : w.heap.size ≤ gb173)); have n3_ := As.mk ((by rw [hg]; exact (below_size (by repeat (first | (with_reducible first | exact HB.out | apply below_alloc | apply pw_below_drewN | apply below_drew1) | exact HB.out))) : w.heap.size ≤ gb173)); clear HB; have HB := n0_; have BK173 := n1_; have GW173 := n2_; have GE173 := n3_; clear n0_ n1_ n2_ n3_; clear hb hbox hg; have z3 := box7 BK173.out))
 refine bodyPost_ret (results_cell_row rfl _ _ gb173 33 #[.int .i64 0, .int .i64 a0, .int .i64 0, .int .i64 10, .string (⟨#[97]⟩ : ByteArray), .string (⟨#[]⟩ : ByteArray), .slice none 0 0] (0, 0) _ rfl (by (with_reducible repeat (first | refine blk_drewN ?_ _ | refine blk_drew ?_ | refine blk_alloc ?_ _)); refine blk_put (cs := #[.int .i64 0, .int .i64 a0, .int .i64 0, .int .i64 10, .string (⟨#[97]⟩ : ByteArray), .string (⟨#[]⟩ : ByteArray), .slice none 0 0]) ?_ 6 _ rfl; (with_reducible repeat (first | refine blk_drewN ?_ _ | refine blk_drew ?_ | refine blk_alloc ?_ _)); refine blk_put (cs := #[.int .i64 0, .int .i64 a0, .int .i64 0, .int .i64 10, .string (⟨#[97]⟩ : ByteArray), .string (⟨#[]⟩ : ByteArray), .slice none 0 0]) ?_ 5 _ rfl; (with_reducible repeat (first | refine blk_drewN ?_ _ | refine blk_drew ?_ | refine blk_alloc ?_ _)); refine blk_put (cs := #[.int .i64 0, .int .i64 a0, .int .i64 0, .int .i64 10, .string (⟨#[]⟩ : ByteArray), .string (⟨#[]⟩ : ByteArray), .slice none 0 0]) ?_ 4 _ rfl; (with_reducible repeat (first | refine blk_drewN ?_ _ | refine blk_drew ?_ | refine blk_alloc ?_ _)); refine blk_put (cs := #[.int .i64 0, .int .i64 a0, .int .i64 0, .int .i64 0, .string (⟨#[]⟩ : ByteArray), .string (⟨#[]⟩ : ByteArray), .slice none 0 0]) ?_ 3 _ rfl; (with_reducible repeat (first | refine blk_drewN ?_ _ | refine blk_drew ?_ | refine blk_alloc ?_ _)); refine blk_put (cs := #[.int .i64 0, .int .i64 a0, .int .i64 0, .int .i64 0, .string (⟨#[]⟩ : ByteArray), .string (⟨#[]⟩ : ByteArray), .slice none 0 0]) ?_ 2 _ rfl; (with_reducible repeat (first | refine blk_drewN ?_ _ | refine blk_drew ?_ | refine blk_alloc ?_ _)); refine blk_put (cs := #[.int .i64 0, .int .i64 0, .int .i64 0, .int .i64 0, .string (⟨#[]⟩ : ByteArray), .string (⟨#[]⟩ : ByteArray), .slice none 0 0]) ?_ 1 _ rfl; (with_reducible repeat (first | refine blk_drewN ?_ _ | refine blk_drew ?_ | refine blk_alloc ?_ _)); refine blk_put (cs := #[.int .i64 0, .int .i64 0, .int .i64 0, .int .i64 0, .string (⟨#[]⟩ : ByteArray), .string (⟨#[]⟩ : ByteArray), .slice none 0 0]) ?_ 0 _ rfl; (with_reducible repeat (first | refine blk_drewN ?_ _ | refine blk_drew ?_ | refine blk_alloc ?_ _)); exact BK173.out) Try.underlying33 rfl (by kernel_rfl)) rfl ?_
 exact ⟨_, by first | rfl | (simp [*] <;> rfl), by first | exact Kd.R_nil _ _ _ _ _ | exact Kd.N_nil _ _ _ _ _ | exact Kd.V_nil _ _ _ _ _ | exact Kd.Q_nil _ _ _ _ _ | exact Kd.S_nil _ _ _ _ _, by repeat (first | (with_reducible first | exact HB.out | apply below_alloc | apply pw_below_drewN | apply below_drew1 | refine below_set ?_ GE173.out) | exact HB.out)⟩
end Go.Proofs.Yteadghhmoggjnaa.Q
end
section
namespace Go.Proofs.YteadghhmoggjnaaB
open Go.RowKit
open Go.Proofs.Yteadghhmoggjnaa.Q (S33 k33 z33 k33_open k33_mk k33_mkM k33_openF)
open Go.Proofs.YteadghhmoggjnaaW.PrintWords (Kd ReadsRow)
set_option maxHeartbeats 1600000
set_option maxRecDepth 1000000
def gA : S33 := ⟨0, 10, 0, 10, ⟨#[97]⟩, ⟨#[]⟩, []⟩
def gB (w : Int) : S33 := ⟨1, w, 0, 10, ⟨#[]⟩, ⟨#[]⟩, []⟩
theorem sane_take : Go.Proofs.Yteadghhmoggjnaa.Q.fill_Take.f [gA, gB 5, gA, gB 5, gA] 26 5 0 0 0 ⟨#[]⟩ ⟨#[]⟩ [] = some ([gA, gB 5, gA], [gA], true, 0) := by kernel_rfl
theorem sane_adj : Go.Proofs.Yteadghhmoggjnaa.Q.fill_Adjust.f [gA, gB 5, gA] 26 98 true = some ([gA, gB 6, gA], 0, 0) := by kernel_rfl
theorem five_rd {W : World} {g : Nat} {t : TypeId} {fr : Nat × Nat} {A0 A1 A2 A3 A4 : Option Addr} {c0 c1 c2 c3 c4 : Nat} (hb : W.heap[g]? = some (.cells (S33cells gA A0 c0 ++ (S33cells (gB 5) A1 c1 ++ (S33cells gA A2 c2 ++ (S33cells (gB 5) A3 c3 ++ S33cells gA A4 c4)))).toArray t fr)) :
  boxK.Rd W (fun _ => True) (some ⟨g, 0, none⟩) 5 [gA, gB 5, gA, gB 5, gA] := by
 have key : ∀ (i j : Nat) (u : Value), (S33cells gA A0 c0 ++ (S33cells (gB 5) A1 c1 ++ (S33cells gA A2 c2 ++ (S33cells (gB 5) A3 c3 ++ S33cells gA A4 c4))))[i * 7 + j]? = some u → W.cell? ⟨g, 0 + i * boxK.sz + j, none⟩ = some u := fun i j u h => by
  have e : 0 + i * boxK.sz + j = i * 7 + j := by show 0 + i * 7 + j = _; omega
  rw [e, blk_cell hb, List.getElem?_toArray]
  exact h
 refine ⟨rfl, fun _ => ⟨g, 0, rfl, trivial, blk_lt hb, fun i x hx => ?_⟩⟩
 rcases i with _ | _ | _ | _ | _ | i
 ·obtain rfl : gA = x := by simpa using hx
  exact ⟨_, ⟨A0, c0, rfl, Nat.zero_le _, Kind.Rd.nil _ _ _ _⟩, fun j u hu => key 0 j u (by rcases j with _ | _ | _ | _ | _ | _ | _ | j <;> first | exact hu | (cases hu))⟩
 ·obtain rfl : gB 5 = x := by simpa using hx
  exact ⟨_, ⟨A1, c1, rfl, Nat.zero_le _, Kind.Rd.nil _ _ _ _⟩, fun j u hu => key 1 j u (by rcases j with _ | _ | _ | _ | _ | _ | _ | j <;> first | exact hu | (cases hu))⟩
 ·obtain rfl : gA = x := by simpa using hx
  exact ⟨_, ⟨A2, c2, rfl, Nat.zero_le _, Kind.Rd.nil _ _ _ _⟩, fun j u hu => key 2 j u (by rcases j with _ | _ | _ | _ | _ | _ | _ | j <;> first | exact hu | (cases hu))⟩
 ·obtain rfl : gB 5 = x := by simpa using hx
  exact ⟨_, ⟨A3, c3, rfl, Nat.zero_le _, Kind.Rd.nil _ _ _ _⟩, fun j u hu => key 3 j u (by rcases j with _ | _ | _ | _ | _ | _ | _ | j <;> first | exact hu | (cases hu))⟩
 ·obtain rfl : gA = x := by simpa using hx
  exact ⟨_, ⟨A4, c4, rfl, Nat.zero_le _, Kind.Rd.nil _ _ _ _⟩, fun j u hu => key 4 j u (by rcases j with _ | _ | _ | _ | _ | _ | _ | j <;> first | exact hu | (cases hu))⟩
 ·simp at hx
theorem small3 (l : List S33) (h : l.all (fun x => decide (x.f6.length ≤ 9223372036854775807)) = true) : ∀ x ∈ l, x.f6.length ≤ 9223372036854775807 := fun x hx => of_decide_eq_true (List.all_eq_true.1 h x hx)
theorem nil_C (W : World) : (Kd.int .i64).C W none 0 [] := ⟨rfl, by decide, fun h => absurd h (by decide)⟩
theorem sane_any (w : World) : Calls Try.prog 15 #[] w fun e w' => e = .returned (.bool true) ∧ Below w.heap.size w w' := by
  have HB : Hid (Below w.heap.size w w) := hide (Below.refl _ _)
  go_enter Try.func15, Try.ntmps15
  go_wp2_with (first
    | (go_at_call 37
       refine (Go.Proofs.Yteadghhmoggjnaa.Q.w_a.calls 10 0 10 0 10 ⟨#[97]⟩ ⟨#[]⟩ [] _ rfl).mono ?_
       rintro e w2 ⟨v6, rfl, hv, hb⟩
       obtain ⟨A6, c6, rfl⟩ := Kd.R_slice hv
       have HB2 := hide (below_self HB.out hb)
       clear hv hb HB
       have HB := HB2
       clear HB2)
    | (go_at_call 18
       refine (Go.Proofs.Yteadghhmoggjnaa.Q.w_blank.calls 5 1 5 0 10 ⟨#[]⟩ ⟨#[]⟩ [] _ rfl).mono ?_
       rintro e w2 ⟨v6, rfl, hv, hb⟩
       obtain ⟨A6, c6, rfl⟩ := Kd.R_slice hv
       have HB2 := hide (below_self HB.out hb)
       clear hv hb HB
       have HB := HB2
       clear HB2)
    | (go_at_call 16
       refine (Go.Proofs.Yteadghhmoggjnaa.Q.fill_Take.calls (some ⟨w2.heap.size, 0, none⟩) 5 [gA, gB 5, gA, gB 5, gA] 26 5 0 0 0 ⟨#[]⟩ ⟨#[]⟩ none 0 [] [gA, gB 5, gA] [gA] true 0 _ (C_boxes (by decide) (small3 _ rfl) (five_rd (blk_new w2 _))) (by decide) (nil_C _) (Nat.le_refl _) sane_take).mono ?_
       rintro e w3 ⟨v0, v1, rfl, hs0, hs1, hb⟩
       obtain ⟨A7, c7, rfl, h7, hf7⟩ := Kd.S_V (base' := 0) hs0
       obtain ⟨A8, c8, rfl, -, -⟩ := Kd.S_V (base' := 0) hs1
       have HR7 := hide (rd_of_F hf7)
       have HB3 : Hid (Below w.heap.size w w3) := hide (below_self (below_self HB.out (below_a _)) hb)
       clear hs0 hs1 hb hf7 HB)
    | (go_at_call 11
       refine (Go.Proofs.Yteadghhmoggjnaa.Q.fill_Adjust.calls A7 c7 [gA, gB 5, gA] 26 98 true [gA, gB 6, gA] 0 0 _ (C_boxes (by decide) (small3 _ rfl) HR7.out) h7 sane_adj).mono ?_
       rintro e w4 ⟨v0, rfl, hs0, hb⟩
       obtain ⟨A9, c9, rfl, -, hf9⟩ := Kd.S_V (base' := 0) hs0
       obtain ⟨b9, o9, A10, c10, rfl, -, -, -, -, z1, -, -, -, -, -⟩ := box_cells (i := 1) (x := gB 6) (rd_of_F hf9) rfl
       have z1' : w4.cell? ⟨b9, o9 + 7 + 1, none⟩ = some (.int .i64 6) := z1
       have HB4 : Hid (Below w.heap.size w w4) := hide (below_self HB3.out hb)
       clear hs0 hb hf9 z1))
  go_ret
  exact ⟨rfl, HB4.out⟩
end Go.Proofs.YteadghhmoggjnaaB
end
section
namespace Go.Proofs.Yteadghhmoggjnaa.Q
open Go.RowKit Go.Proofs.YteadghhmoggjnaaW.PrintWords Go.Proofs.YteadghhmoggjnaaW.PrintLast Go.Proofs.YteadghhmoggjnaaW.PrintMore
attribute [local go_sem] max2_int max_two
def w_sane.f  : Option (Bool) := some true
theorem w_sane.calls  (r : Bool) (w : World) (h : w_sane.f  = some r) :
  Calls Try.prog 15 #[] w fun e w' => e = .returned (.bool r) ∧ Below w.heap.size w w' := by
 obtain rfl := Option.some.inj h
 exact Go.Proofs.YteadghhmoggjnaaB.sane_any w
end Go.Proofs.Yteadghhmoggjnaa.Q
end
end
