import Derived.KernelRfl
import Derived.Test.YteadghhmoggjnaaRows
import Derived.ProofKit
import Derived.Deep.Slices
import Derived.Deep.Fields
import Derived.SizedLaws
import Derived.ChangeMaps5
import Derived.Test.YteadghhmoggjnaaFK3
import Derived.Test.YteadghhmoggjnaaFK14
import Derived.Test.YteadghhmoggjnaaFK13
import Derived.Test.YteadghhmoggjnaaFK18
import Derived.Test.YteadghhmoggjnaaFK17
import Derived.Test.YteadghhmoggjnaaFK9
import Derived.Test.YteadghhmoggjnaaFK16
section
section
namespace Go.Proofs.Yteadghhmoggjnaa.Q
open Go.RowKit Go.Proofs.YteadghhmoggjnaaW.PrintWords Go.Proofs.YteadghhmoggjnaaW.PrintLast

set_option linter.unusedVariables false
set_option linter.unusedSimpArgs false
/-! ### frisketlaw11_a: function 37 -/
def frisketlaw11_a.f (a0 : Int) : Option (Int × Int × Int × Int × ByteArray × ByteArray × List Int) := some (0, a0, 0, 10, (⟨#[97]⟩ : ByteArray), (⟨#[]⟩ : ByteArray), ([] : List Int))
set_option maxHeartbeats 8000000 in
set_option maxRecDepth 100000 in
theorem frisketlaw11_a.calls (a0 : Int) (r1 : Int) (r2 : Int) (r3 : Int) (r4 : Int) (r5 : ByteArray) (r6 : ByteArray) (r7 : List Int) (w : World) (h : frisketlaw11_a.f a0 = some (r1, r2, r3, r4, r5, r6, r7)) :
    Calls Try.prog 37 #[.int .i64 a0] w fun e w' => ∃ v6_ : Value, e = .returned (.agg #[.int .i64 r1, .int .i64 r2, .int .i64 r3, .int .i64 r4, .string r5, .string r6, v6_]) ∧ Kd.R (Kd.int .i64) 3 w' w.heap.size (fun _ => True) v6_ r7 ∧ Below w.heap.size w w' := by
  have hu33 := Try.underlying33
  have HB := Aside0.mk (Below.refl w.heap.size w)
  have H : (some (0, a0, 0, 10, (⟨#[97]⟩ : ByteArray), (⟨#[]⟩ : ByteArray), ([] : List Int))) = some (r1, r2, r3, r4, r5, r6, r7) := h
  clear h
  simp only [Option.some.injEq, Prod.mk.injEq] at H
  obtain ⟨rfl, rfl, rfl, rfl, rfl, rfl, rfl⟩ := H
  go_enter Try.func37, Try.ntmps37
  go_wp2_with (first | ((with_reducible refine gate_dst (N := 2) rfl ?_); refine box_event ?hg (N := 2) ?hd (cs := #[.int .i64 0, .int .i64 0, .int .i64 0, .int .i64 0, .string (⟨#[]⟩ : ByteArray), .string (⟨#[]⟩ : ByteArray), .slice none 0 0]) (t := 33) ?hr ?_; (case hd => rfl); (case hg => rfl); (case hr => first | (go_simp; done) | (go_simp; rfl)); intro gb173 hg w2 hbox hb; have n0_ := Aside0.mk (below_step (by repeat (first | (with_reducible first | exact HB.out | apply below_alloc | apply pw_below_drewN | apply below_drew1) | exact HB.out)) hb); have n1_ := Aside0.mk (hbox); have n2_ := Aside0.mk ((by rw [hg]; exact (below_size (by repeat (first | (with_reducible first | exact HB.out | apply below_alloc | apply pw_below_drewN | apply below_drew1) | exact HB.out))) : w.heap.size ≤ gb173)); have n3_ := Aside0.mk ((by rw [hg]; exact (below_size (by repeat (first | (with_reducible first | exact HB.out | apply below_alloc | apply pw_below_drewN | apply below_drew1) | exact HB.out))) : w.heap.size ≤ gb173)); clear HB; have HB := n0_; have BK173 := n1_; have GW173 := n2_; have GE173 := n3_; clear n0_ n1_ n2_ n3_; clear hb hbox hg; have hcz3_0 : w2.cell? ⟨gb173, 0, none⟩ = some (.int .i64 0) := (blk_cell BK173.out 0).trans rfl; have hcz3_1 : w2.cell? ⟨gb173, 1, none⟩ = some (.int .i64 0) := (blk_cell BK173.out 1).trans rfl; have hcz3_2 : w2.cell? ⟨gb173, 2, none⟩ = some (.int .i64 0) := (blk_cell BK173.out 2).trans rfl; have hcz3_3 : w2.cell? ⟨gb173, 3, none⟩ = some (.int .i64 0) := (blk_cell BK173.out 3).trans rfl; have hcz3_4 : w2.cell? ⟨gb173, 4, none⟩ = some (.string (⟨#[]⟩ : ByteArray)) := (blk_cell BK173.out 4).trans rfl; have hcz3_5 : w2.cell? ⟨gb173, 5, none⟩ = some (.string (⟨#[]⟩ : ByteArray)) := (blk_cell BK173.out 5).trans rfl; have hcz3_6 : w2.cell? ⟨gb173, 6, none⟩ = some (.slice none 0 0) := (blk_cell BK173.out 6).trans rfl; have hfz3_0 := blk_frozen BK173.out 0; have hfz3_1 := blk_frozen BK173.out 1; have hfz3_2 := blk_frozen BK173.out 2; have hfz3_3 := blk_frozen BK173.out 3; have hfz3_4 := blk_frozen BK173.out 4; have hfz3_5 := blk_frozen BK173.out 5; have hfz3_6 := blk_frozen BK173.out 6))
  refine bodyPost_ret (results_cell_row rfl _ _ gb173 33 #[.int .i64 0, .int .i64 a0, .int .i64 0, .int .i64 10, .string (⟨#[97]⟩ : ByteArray), .string (⟨#[]⟩ : ByteArray), .slice none 0 0] (0, 0) _ rfl (by (with_reducible repeat (first | refine blk_drewN ?_ _ | refine blk_drew ?_ | refine blk_alloc ?_ _)); refine blk_put (cs := #[.int .i64 0, .int .i64 a0, .int .i64 0, .int .i64 10, .string (⟨#[97]⟩ : ByteArray), .string (⟨#[]⟩ : ByteArray), .slice none 0 0]) ?_ 6 _ rfl; (with_reducible repeat (first | refine blk_drewN ?_ _ | refine blk_drew ?_ | refine blk_alloc ?_ _)); refine blk_put (cs := #[.int .i64 0, .int .i64 a0, .int .i64 0, .int .i64 10, .string (⟨#[97]⟩ : ByteArray), .string (⟨#[]⟩ : ByteArray), .slice none 0 0]) ?_ 5 _ rfl; (with_reducible repeat (first | refine blk_drewN ?_ _ | refine blk_drew ?_ | refine blk_alloc ?_ _)); refine blk_put (cs := #[.int .i64 0, .int .i64 a0, .int .i64 0, .int .i64 10, .string (⟨#[]⟩ : ByteArray), .string (⟨#[]⟩ : ByteArray), .slice none 0 0]) ?_ 4 _ rfl; (with_reducible repeat (first | refine blk_drewN ?_ _ | refine blk_drew ?_ | refine blk_alloc ?_ _)); refine blk_put (cs := #[.int .i64 0, .int .i64 a0, .int .i64 0, .int .i64 0, .string (⟨#[]⟩ : ByteArray), .string (⟨#[]⟩ : ByteArray), .slice none 0 0]) ?_ 3 _ rfl; (with_reducible repeat (first | refine blk_drewN ?_ _ | refine blk_drew ?_ | refine blk_alloc ?_ _)); refine blk_put (cs := #[.int .i64 0, .int .i64 a0, .int .i64 0, .int .i64 0, .string (⟨#[]⟩ : ByteArray), .string (⟨#[]⟩ : ByteArray), .slice none 0 0]) ?_ 2 _ rfl; (with_reducible repeat (first | refine blk_drewN ?_ _ | refine blk_drew ?_ | refine blk_alloc ?_ _)); refine blk_put (cs := #[.int .i64 0, .int .i64 0, .int .i64 0, .int .i64 0, .string (⟨#[]⟩ : ByteArray), .string (⟨#[]⟩ : ByteArray), .slice none 0 0]) ?_ 1 _ rfl; (with_reducible repeat (first | refine blk_drewN ?_ _ | refine blk_drew ?_ | refine blk_alloc ?_ _)); refine blk_put (cs := #[.int .i64 0, .int .i64 0, .int .i64 0, .int .i64 0, .string (⟨#[]⟩ : ByteArray), .string (⟨#[]⟩ : ByteArray), .slice none 0 0]) ?_ 0 _ rfl; (with_reducible repeat (first | refine blk_drewN ?_ _ | refine blk_drew ?_ | refine blk_alloc ?_ _)); exact BK173.out) Try.underlying33 rfl (by kernel_rfl)) rfl ?_
  exact ⟨_, by first | rfl | (simp [errW_none, errW_some] <;> rfl) | (simp [*, errW_none, errW_some] <;> rfl), by first | exact Kd.R_nil _ _ _ _ _ | exact Kd.N_nil _ _ _ _ _ | exact Kd.V_nil _ _ _ _ _ | exact Kd.Q_nil _ _ _ _ _ | exact Kd.S_nil _ _ _ _ _, by repeat (first | (with_reducible first | exact HB.out | apply below_alloc | apply pw_below_drewN | apply below_drew1 | refine below_set ?_ GE173.out) | exact HB.out)⟩
end Go.Proofs.Yteadghhmoggjnaa.Q
end
section
/- The laws' fixed example: sane. -/
set_option linter.unusedVariables false
set_option linter.unusedSimpArgs false
namespace Go.Proofs.YteadghhmoggjnaaB
open Go.RowKit
open Go.Proofs.Yteadghhmoggjnaa.Q (S33 k33 z33 k33_open k33_mk k33_mkM k33_openF)
open Go.Proofs.YteadghhmoggjnaaW.PrintWords (Kd ReadsRow)
set_option maxHeartbeats 1600000
set_option maxRecDepth 1000000
def gA : S33 := ⟨0, 10, 0, 10, ⟨#[97]⟩, ⟨#[]⟩, []⟩
def gB (w : Int) : S33 := ⟨1, w, 0, 10, ⟨#[]⟩, ⟨#[]⟩, []⟩
theorem sane_take : Go.Proofs.Yteadghhmoggjnaa.Q.fill_Take.f [gA, gB 5, gA, gB 5, gA] 26 5 0 0 0 ⟨#[]⟩ ⟨#[]⟩ [] = some ([gA, gB 5, gA], [gA], true, 0) := by kernel_rfl
theorem sane_adj : Go.Proofs.Yteadghhmoggjnaa.Q.fill_Adjust.f [gA, gB 5, gA] 26 98 true = some ([gA, gB 6, gA], 0, 0) := by kernel_rfl
theorem five_rd {W : World} {g : Nat} {t : TypeId} {fr : Nat × Nat} {A0 A1 A2 A3 A4 : Option Addr} {c0 c1 c2 c3 c4 : Nat} (hb : W.heap[g]? = some (.cells (S33cells gA A0 c0 ++ (S33cells (gB 5) A1 c1 ++ (S33cells gA A2 c2 ++ (S33cells (gB 5) A3 c3 ++ S33cells gA A4 c4)))).toArray t fr)) :
    boxK.Rd W (fun _ => True) (some ⟨g, 0, none⟩) 5 [gA, gB 5, gA, gB 5, gA] := by
  have key : ∀ (i j : Nat) (u : Value), (S33cells gA A0 c0 ++ (S33cells (gB 5) A1 c1 ++ (S33cells gA A2 c2 ++ (S33cells (gB 5) A3 c3 ++ S33cells gA A4 c4))))[i * 7 + j]? = some u → W.cell? ⟨g, 0 + i * boxK.sz + j, none⟩ = some u := fun i j u h => by
    have e : 0 + i * boxK.sz + j = i * 7 + j := by show 0 + i * 7 + j = _; omega
    rw [e, blk_cell hb, List.getElem?_toArray]
    exact h
  refine ⟨rfl, fun _ => ⟨g, 0, rfl, trivial, blk_lt hb, fun i x hx => ?_⟩⟩
  rcases i with _ | _ | _ | _ | _ | i
  · obtain rfl : gA = x := by simpa using hx
    exact ⟨_, ⟨A0, c0, rfl, Nat.zero_le _, Kind.Rd.nil _ _ _ _⟩, fun j u hu => key 0 j u (by rcases j with _ | _ | _ | _ | _ | _ | _ | j <;> first | exact hu | (cases hu))⟩
  · obtain rfl : gB 5 = x := by simpa using hx
    exact ⟨_, ⟨A1, c1, rfl, Nat.zero_le _, Kind.Rd.nil _ _ _ _⟩, fun j u hu => key 1 j u (by rcases j with _ | _ | _ | _ | _ | _ | _ | j <;> first | exact hu | (cases hu))⟩
  · obtain rfl : gA = x := by simpa using hx
    exact ⟨_, ⟨A2, c2, rfl, Nat.zero_le _, Kind.Rd.nil _ _ _ _⟩, fun j u hu => key 2 j u (by rcases j with _ | _ | _ | _ | _ | _ | _ | j <;> first | exact hu | (cases hu))⟩
  · obtain rfl : gB 5 = x := by simpa using hx
    exact ⟨_, ⟨A3, c3, rfl, Nat.zero_le _, Kind.Rd.nil _ _ _ _⟩, fun j u hu => key 3 j u (by rcases j with _ | _ | _ | _ | _ | _ | _ | j <;> first | exact hu | (cases hu))⟩
  · obtain rfl : gA = x := by simpa using hx
    exact ⟨_, ⟨A4, c4, rfl, Nat.zero_le _, Kind.Rd.nil _ _ _ _⟩, fun j u hu => key 4 j u (by rcases j with _ | _ | _ | _ | _ | _ | _ | j <;> first | exact hu | (cases hu))⟩
  · simp at hx
theorem small3 (l : List S33) (h : l.all (fun x => decide (x.f6.length ≤ 9223372036854775807)) = true) : ∀ x ∈ l, x.f6.length ≤ 9223372036854775807 := fun x hx => of_decide_eq_true (List.all_eq_true.1 h x hx)
theorem nil_C (W : World) : (Kd.int .i64).C W none 0 [] := ⟨rfl, by decide, fun h => absurd h (by decide)⟩
theorem sane_any (w : World) : Calls Try.prog 15 #[] w fun e w' => e = .returned (.bool true) ∧ Below w.heap.size w w' := by
  have HB : Hid (Below w.heap.size w w) := hide (Below.refl _ _)
  go_enter Try.func15, Try.ntmps15
  go_wp2_with (first
    | (go_at_call 37
       refine (Go.Proofs.Yteadghhmoggjnaa.Q.frisketlaw11_a.calls 10 0 10 0 10 ⟨#[97]⟩ ⟨#[]⟩ [] _ rfl).mono ?_
       rintro e w2 ⟨v6, rfl, hv, hb⟩
       obtain ⟨A6, c6, rfl⟩ := Kd.R_slice hv
       have HB2 := hide (below_self HB.out hb)
       clear hv hb HB
       have HB := HB2
       clear HB2)
    | (go_at_call 18
       refine (Go.Proofs.Yteadghhmoggjnaa.Q.frisketlaw11_blank.calls 5 1 5 0 10 ⟨#[]⟩ ⟨#[]⟩ [] _ rfl).mono ?_
       rintro e w2 ⟨v6, rfl, hv, hb⟩
       obtain ⟨A6, c6, rfl⟩ := Kd.R_slice hv
       have HB2 := hide (below_self HB.out hb)
       clear hv hb HB
       have HB := HB2
       clear HB2)
    | (go_at_call 16
       refine (Go.Proofs.Yteadghhmoggjnaa.Q.fill_Take.calls (some ⟨w2.heap.size, 0, none⟩) 5 [gA, gB 5, gA, gB 5, gA] 26 5 0 0 0 ⟨#[]⟩ ⟨#[]⟩ none 0 [] [gA, gB 5, gA] [gA] true 0 _ (C_boxes (by decide) (small3 _ rfl) (five_rd (blk_new w2 _))) (by decide) (nil_C _) (Nat.le_refl _) sane_take).mono ?_
       rintro e w3 ⟨v0, v1, rfl, hs0, hs1, hb⟩
       obtain ⟨A7, c7, rfl, h7, hf7⟩ := Kd.S_V (base' := 0) hs0
       obtain ⟨A8, c8, rfl, -, -⟩ := Kd.S_V (base' := 0) hs1
       have HR7 := hide (rd_of_F hf7)
       have HB3 : Hid (Below w.heap.size w w3) := hide (below_self (below_self HB.out (below_a _)) hb)
       clear hs0 hs1 hb hf7 HB)
    | (go_at_call 11
       refine (Go.Proofs.Yteadghhmoggjnaa.Q.fill_Adjust.calls A7 c7 [gA, gB 5, gA] 26 98 true [gA, gB 6, gA] 0 0 _ (C_boxes (by decide) (small3 _ rfl) HR7.out) h7 sane_adj).mono ?_
       rintro e w4 ⟨v0, rfl, hs0, hb⟩
       obtain ⟨A9, c9, rfl, -, hf9⟩ := Kd.S_V (base' := 0) hs0
       obtain ⟨b9, o9, A10, c10, rfl, -, -, -, -, z1, -, -, -, -, -⟩ := box_cells (i := 1) (x := gB 6) (rd_of_F hf9) rfl
       have z1' : w4.cell? ⟨b9, o9 + 7 + 1, none⟩ = some (.int .i64 6) := z1
       have HB4 : Hid (Below w.heap.size w w4) := hide (below_self HB3.out hb)
       clear hs0 hb hf9 z1))
  go_ret
  exact ⟨rfl, HB4.out⟩
end Go.Proofs.YteadghhmoggjnaaB
end
section
namespace Go.Proofs.Yteadghhmoggjnaa.Q
open Go.RowKit Go.Proofs.YteadghhmoggjnaaW.PrintWords Go.Proofs.YteadghhmoggjnaaW.PrintLast

set_option linter.unusedVariables false
set_option linter.unusedSimpArgs false
-- GIVEN by hand
-- GIVEN IMPORT Derived.Test.YteadghhmoggjnaaF18
/-! ### frisketlaw11_sane: function 15 -/
def frisketlaw11_sane.f  : Option (Bool) := some true
theorem frisketlaw11_sane.calls  (r : Bool) (w : World) (h : frisketlaw11_sane.f  = some r) :
    Calls Try.prog 15 #[] w fun e w' => e = .returned (.bool r) ∧ Below w.heap.size w w' := by
  obtain rfl := Option.some.inj h
  exact Go.Proofs.YteadghhmoggjnaaB.sane_any w
end Go.Proofs.Yteadghhmoggjnaa.Q
end
end
section
/- The law FillKeeps: the walk. -/
set_option linter.unusedVariables false
set_option linter.unusedSimpArgs false
namespace Go.Proofs.YteadghhmoggjnaaB
open Go.RowKit
open Go.Proofs.Yteadghhmoggjnaa.Q
open Go.Proofs.YteadghhmoggjnaaW.PrintWords Go.Proofs.YteadghhmoggjnaaW.PrintLast
set_option maxHeartbeats 4000000
set_option maxRecDepth 1000000
/-- What has been told of the first i lines. -/
def told (L : List (List S33)) (i : Nat) : List UInt8 := (L.take i).flatMap (fun y => contL (coreL y))
structure KpF (ns : List Int) (K : Nat) (row : List S33) (L : List (List S33)) (n1 n2 : Int) : Prop where
 frow : frisketlaw11_Row.f K ns = some row
 fbr : fill_Break.f K row n1 n2 0 4 0 10 ⟨#[104, 121]⟩ ⟨#[]⟩ [] = some (L, 0)
 fline : ∀ (i : Nat) y, L[i]? = some y → frisketlaw11_content.f K (coreL y) = some (bytesOf (contL (coreL y)))
 fall : frisketlaw11_content.f K row = some (bytesOf (contL row))
 cat : told L L.length = contL row
 ends : ∀ (i : Nat) y, L[i]? = some y → endsHy y = true → i + 1 < L.length
 lenL : L.length ≤ 1000
 lenC : ∀ i, (told L i).length ≤ 1000000
 lenY : ∀ (i : Nat) y, L[i]? = some y → y.length ≤ 1000 ∧ (contL (coreL y)).length ≤ 1000000
theorem told_succ {L : List (List S33)} {i : Nat} {y : List S33} (h : L[i]? = some y) : bytesOf (told L i) ++ bytesOf (contL (coreL y)) = bytesOf (told L (i + 1)) := by
 obtain ⟨hi, e⟩ := List.getElem?_eq_some_iff.1 h
 rw [bytes_app]
 unfold told
 rw [List.take_succ_eq_append_getElem hi, List.flatMap_append, e]
 congr 2
 show (bytesOf (contL (coreL y))).data.toList = contL (coreL y) ++ []
 unfold bytesOf
 simp
theorem round_end {L : List (List S33)} {i : Nat} {y : List S33} {w3 w5 : World} (h : L[i]? = some y) (hl : L.length ≤ 1000) (hb : Below w3.heap.size w3 w5) : (∃ i_1 : Nat,
   Value.int IntKind.i64 (wrap64 ((i : Int) + 1)) = Value.int IntKind.i64 (i_1 : Int) ∧
    Value.string (bytesOf (told L i) ++ bytesOf (contL (coreL y))) = Value.string (bytesOf (told L i_1)) ∧
     i_1 ≤ L.length ∧ Hid (Below w3.heap.size w3 w5)) ∧
  L.length - (intOf (Value.int IntKind.i64 (wrap64 ((i : Int) + 1)))).toNat < L.length - (intOf (Value.int IntKind.i64 (i : Int))).toNat := by
 obtain ⟨hi, e⟩ := List.getElem?_eq_some_iff.1 h
 have hw : wrap64 ((i : Int) + 1) = ((i + 1 : Nat) : Int) := w64_suc (by omega)
 rw [hw]
 refine ⟨⟨i + 1, rfl, by rw [told_succ h], by omega, hide hb⟩, ?_⟩
 show L.length - ((i + 1 : Nat) : Int).toNat < L.length - (i : Int).toNat
 omega
theorem FillKeeps_any (ns : List Int) (a1 a2 : Int) (A0 : Option Addr) (c0 : Nat) (w : World) (K : Nat) (row : List S33) (L : List (List S33))
  (hr0 : (Kd.int .i64).C w A0 ns.length ns) (hc0 : ns.length ≤ c0) (hF : KpF ns K row L (wrap64 (Int.tmod (IntKind.u64.wrap a1) 200)) (wrap64 (Int.tmod (IntKind.u64.wrap a2) 200))) :
  Calls Try.prog 6 #[.slice A0 ns.length c0, .int .i64 a1, .int .i64 a2] w fun e w' => e = .returned (.bool true) ∧ Below w.heap.size w w' := by
 have HR0 := hide hr0
 have HC0 := hide hc0
 have HF := hide hF
 clear hr0 hc0 hF
 go_enter Try.func6, Try.ntmps6
 go_upto_region 3 with (first
  | (go_at_call 10; refine (frisketlaw11_Row.calls K A0 c0 ns row w HR0.out HC0.out HF.out.frow).mono ?_; rintro e w2 ⟨v2, rfl, q1, q2⟩; have HS2 := hide q1; have HB2 := hide q2; clear q1 q2; obtain ⟨A2, c2, e2⟩ := Kd.S_slice HS2.out; subst e2))
 obtain ⟨wb, hwb⟩ : ∃ wb, wb = w2.alloc (.cells #[.int .i64 0, .int .i64 4, .int .i64 0, .int .i64 10, .string ⟨#[104, 121]⟩, .string ⟨#[]⟩, .slice none 0 0] 33) := ⟨_, rfl⟩
 have hbb : Below w2.heap.size w2 wb := by rw [hwb]; exact below_a _
 have hblk : wb.heap[w2.heap.size]? = some (.cells #[.int .i64 0, .int .i64 4, .int .i64 0, .int .i64 10, .string ⟨#[104, 121]⟩, .string ⟨#[]⟩, .slice none 0 0] 33 (0, 0)) := by rw [hwb]; exact blk_new _ _
 have x0 : wb.cell? ⟨w2.heap.size, 0, none⟩ = some (.int .i64 0) := by rw [blk_cell hblk]; rfl
 have x1 : wb.cell? ⟨w2.heap.size, 1, none⟩ = some (.int .i64 4) := by rw [blk_cell hblk]; rfl
 have x2 : wb.cell? ⟨w2.heap.size, 2, none⟩ = some (.int .i64 0) := by rw [blk_cell hblk]; rfl
 have x3 : wb.cell? ⟨w2.heap.size, 3, none⟩ = some (.int .i64 10) := by rw [blk_cell hblk]; rfl
 have x4 : wb.cell? ⟨w2.heap.size, 4, none⟩ = some (.string ⟨#[104, 121]⟩) := by rw [blk_cell hblk]; rfl
 have x5 : wb.cell? ⟨w2.heap.size, 5, none⟩ = some (.string ⟨#[]⟩) := by rw [blk_cell hblk]; rfl
 have x6 : wb.cell? ⟨w2.heap.size, 6, none⟩ = some (.slice none 0 0) := by rw [blk_cell hblk]; rfl
 rw [← hwb]
 have HV2 := hide (Kd.S_V (base' := wb.heap.size) (Kd.S_bound HS2.out))
 have HRB := hide (Kd.C_below (Kd.S_reads' HS2.out).2.2 hbb)
 have HCB := hide (Kd.S_reads' HS2.out).2.1
 have HBB := hide (below_self HB2.out hbb)
 clear hwb hbb hblk HS2 HV2 HB2
 obtain ⟨gb, hgb⟩ : ∃ gb, gb = w2.heap.size := ⟨_, rfl⟩
 rw [← hgb] at x0 x1 x2 x3 x4 x5 x6 ⊢
 clear hgb
 go_upto_region 4 with (first
  | (go_at_call 19; refine (fill_Break.calls K (fun k => k < wb.heap.size) A2 c2 row (wrap64 (Int.tmod (IntKind.u64.wrap a1) 200)) (wrap64 (Int.tmod (IntKind.u64.wrap a2) 200)) 0 4 0 10 ⟨#[104, 121]⟩ ⟨#[]⟩ (fun _ => False) none 0 [] L 0 wb (Kd.V_mk HCB.out (Kd.C_F k33_heap HRB.out)) (Kd.V_nil _ _ _ _ _) HF.out.fbr).mono ?_; rintro e w3 ⟨v3, rfl, q1, q2⟩; obtain ⟨A9, c9, e9⟩ := Kd.R_slice q1; subst e9; have HL3 := hide (Kd.R_reads' q1).2; have HB3 := hide (below_self HBB.out q2); have HR3 := hide (Kd.C_below HRB.out q2); clear q1 q2))
 clear x0 x1 x2 x3 x4 x5 x6 HRB HBB
 go_wp2_with fail
 go_loopw [11, 12] (fun t11 t12 wr => ∃ i : Nat, t12 = .int .i64 (i : Int) ∧ t11 = .string (bytesOf (told L i)) ∧ i ≤ L.length ∧ Hid (Below w3.heap.size w3 wr)) (fun _ t12 _ => L.length - (intOf t12).toNat)
 case atStart => exact ⟨0, rfl, rfl, Nat.zero_le _, hide (Below.refl _ _)⟩
 case round =>
  obtain ⟨i, rfl, rfl, hi, HB⟩ := hrel
  by_cases hlt : i < L.length
  ·obtain ⟨y, hy⟩ : ∃ y, L[i]? = some y := ⟨_, List.getElem?_eq_getElem hlt⟩
   have HCL := hide (Kd.C_below HL3.out.2 HB.out)
   obtain ⟨ad, Ay, cy, ea, hxa, hly, hcy⟩ := at_L4 HCL.out (i : Int) (by omega) (by omega)
   have hrd : rd_L4 L (i : Int) = y := by
    unfold rd_L4
    rw [Int.toNat_natCast, List.getD_eq_getElem?_getD, hy]
    rfl
   rw [hrd] at hxa hly hcy
   rw [Int.toNat_natCast] at hxa
   subst ea
   have HLY := hide hly
   have HCY := hide hcy
   have HY := hide hy
   have hi1 : decide ((i : Int) < (L.length : Int)) = true := decide_eq_true (by omega)
   have hi2 : decide (i < L.length) = true := decide_eq_true hlt
   clear hrd hly hcy hy
   go_upto_region 12 with fail
   rcases Nat.eq_zero_or_pos y.length with h0 | h0
   ·have hy0 : y = [] := List.eq_nil_of_length_eq_zero h0
    have HCO := hide (show coreL y = y from by rw [hy0]; rfl)
    have HCT := hide (show k33.C wr Ay (coreL y).length (coreL y) from by rw [HCO.out]; exact HCY.out)
    have HCC := hide (show (coreL y).length ≤ cy from by rw [HCO.out]; exact HLY.out)
    have hm1 : decide (0 < (y.length : Int)) = false := decide_eq_false (by omega)
    have hm2 : decide (0 < y.length) = false := decide_eq_false (by omega)
    have HY0 := hide h0
    clear hy0 h0
    go_upto_region 16 with fail
    have hyc : y.length = (coreL y).length := by rw [HCO.out]
    rw [hyc]
    clear hyc
    have hsz := hide (HF.out.lenY i y HY.out).2
    have hsz2 := hide (HF.out.lenC i)
    have hadd : ¬ (maxLen < (bytesOf (told L i)).size + (bytesOf (contL (coreL y))).size) := by rw [bytes_size, bytes_size]; have h1 := hsz.out; have h2 := hsz2.out; have h3 : maxLen = 9223372036854775807 := rfl; omega
    go_wp2_with (first
     | (go_at_call 20; refine (frisketlaw11_content.calls K (Ay) cy (coreL y) (bytesOf (contL (coreL y))) wr HCT.out HCC.out (HF.out.fline i y HY.out)).mono ?_; rintro e w5 ⟨rfl, hd⟩; have HD5 := hide hd; clear hd))
    exact round_end HY.out HF.out.lenL (below_self HB.out HD5.out.below)
   ·obtain ⟨m, hm⟩ : ∃ m, y.length = m + 1 := ⟨y.length - 1, by omega⟩
    obtain ⟨x, hx⟩ : ∃ x, y[m]? = some x := ⟨_, List.getElem?_eq_getElem (by omega)⟩
    obtain ⟨ad2, A6, c6, e2, -, -, -, -, hx4, -⟩ := at_T33 HCY.out (m : Int) (by omega) (by omega)
    rw [rdT_at hx, Int.toNat_natCast] at hx4
    subst e2
    have hm1 : decide (0 < (y.length : Int)) = true := decide_eq_true (by omega)
    have hm2 : decide (0 < y.length) = true := decide_eq_true h0
    have hm3 : IntKind.i64.wrap ((y.length : Int) - 1) = (m : Int) := by rw [IntKind.wrap_i64]; have := (HF.out.lenY i y HY.out).1; omega
    have hm4 : wrap64 ((y.length : Int) - 1) = (m : Int) := by have := (HF.out.lenY i y HY.out).1; unfold wrap64; omega
    have HM := hide hm
    have HX := hide hx
    have hmy : decide (m < y.length) = true := decide_eq_true (by omega)
    have hmy2 : decide ((m : Int) < (y.length : Int)) = true := decide_eq_true (by omega)
    have hmy3 : ((m : Int) < (y.length : Int)) = True := eq_true (by omega)
    have hmy4 : (m < y.length) = True := eq_true (by omega)
    have hgl : y.getLast? = some x := by rw [List.getLast?_eq_getElem?, hm, Nat.add_sub_cancel]; exact hx
    clear hm hx h0
    cases hb : isHy x with
    | true =>
     have HBX := hide hb
     have HCO := hide (show coreL y = y.take m from by unfold coreL; rw [hgl]; show (if isHy x = true then _ else _) = _; rw [if_pos hb, HM.out, Nat.add_sub_cancel])
     have HEN := hide (show endsHy y = true from by unfold endsHy; rw [hgl]; exact hb)
     clear hgl
     have hbb : (x.f4.toList == [104, 121]) = true := hb
     go_upto_region 13 with fail
     have hend := HF.out.ends i y HY.out HEN.out
     have hne1 : ((i : Int) == ((L.length - 1 : Nat) : Int)) = false := beq_eq_false_iff_ne.2 (by omega)
     have hw5 : IntKind.i64.wrap ((L.length : Int) - 1) = ((L.length - 1 : Nat) : Int) := by rw [IntKind.wrap_i64]; have := HF.out.lenL; omega
     have hne2 : (i == L.length - 1) = false := beq_eq_false_iff_ne.2 (by omega)
     obtain ⟨i0, hi0, _, hsz0, _⟩ := info_parts info33
     have hcut := cut_to (P := Try.prog) 23 33 .i64 Try.underlying23 hi0 (some ad2) y.length cy (m : Int) (by omega) (by have := HM.out; omega) HLY.out
     rw [Int.toNat_natCast] at hcut
     have hty : (y.take m).length = m := by rw [List.length_take]; have := HM.out; omega
     have hCT := Kd.C_take (m := m) HCY.out (by have := HM.out; omega)
     rw [hty, ← HCO.out] at hCT
     have hcl : (coreL y).length = m := by rw [HCO.out, hty]
     rw [← hcl] at hCT
     have hcut2 : ∀ W : World, (Instr.slice 23 (.slice (some ad2) y.length cy) none (some (.int .i64 (m : Int))) none).run Try.prog W = .ok (.slice (some ad2) (coreL y).length cy) W := by intro W; rw [hcut W, hcl]
     have HCT := hide hCT
     have HCC := hide (show (coreL y).length ≤ cy from by have := HLY.out; have := HM.out; omega)
     clear hcut hty hCT hcl hend
     have hsz := hide (HF.out.lenY i y HY.out).2
     have hsz2 := hide (HF.out.lenC i)
     have hadd : ¬ (maxLen < (bytesOf (told L i)).size + (bytesOf (contL (coreL y))).size) := by rw [bytes_size, bytes_size]; have h1 := hsz.out; have h2 := hsz2.out; have h3 : maxLen = 9223372036854775807 := rfl; omega
     go_wp2_with (first
      | (go_at_call 20; refine (frisketlaw11_content.calls K (some ad2) cy (coreL y) (bytesOf (contL (coreL y))) wr HCT.out HCC.out (HF.out.fline i y HY.out)).mono ?_; rintro e w5 ⟨rfl, hd⟩; have HD5 := hide hd; clear hd))
     exact round_end HY.out HF.out.lenL (below_self HB.out HD5.out.below)
    | false =>
     have HCO := hide (show coreL y = y from by unfold coreL; rw [hgl]; show (if isHy x = true then _ else _) = _; rw [if_neg (by rw [hb]; decide)])
     clear hgl
     have hbb : (x.f4.toList == [104, 121]) = false := hb
     have HCT := hide (show k33.C wr (some ad2) (coreL y).length (coreL y) from by rw [HCO.out]; exact HCY.out)
     have HCC := hide (show (coreL y).length ≤ cy from by rw [HCO.out]; exact HLY.out)
     go_upto_region 16 with fail
     have hyc : y.length = (coreL y).length := by rw [HCO.out]
     rw [hyc]
     clear hyc
     have hsz := hide (HF.out.lenY i y HY.out).2
     have hsz2 := hide (HF.out.lenC i)
     have hadd : ¬ (maxLen < (bytesOf (told L i)).size + (bytesOf (contL (coreL y))).size) := by rw [bytes_size, bytes_size]; have h1 := hsz.out; have h2 := hsz2.out; have h3 : maxLen = 9223372036854775807 := rfl; omega
     go_wp2_with (first
      | (go_at_call 20; refine (frisketlaw11_content.calls K (some ad2) cy (coreL y) (bytesOf (contL (coreL y))) wr HCT.out HCC.out (HF.out.fline i y HY.out)).mono ?_; rintro e w5 ⟨rfl, hd⟩; have HD5 := hide hd; clear hd))
     exact round_end HY.out HF.out.lenL (below_self HB.out HD5.out.below)
  ·have hie : i = L.length := by omega
   subst hie
   have hi1 : decide ((L.length : Int) < (L.length : Int)) = false := decide_eq_false (by omega)
   have hi2 : decide (L.length < L.length) = false := decide_eq_false (by omega)
   have hcat := HF.out.cat
   rw [hcat]
   have HR3' := hide (Kd.C_below HR3.out HB.out)
   clear hcat hi hlt
   go_wp2_with (first
    | (go_at_call 15; refine (frisketlaw11_sane.calls true w5 rfl).mono ?_; rintro e w6 ⟨rfl, q2⟩; have HB6 := hide (below_self HB3.out (below_self HB.out (below_self HD5.out.below q2))); clear q2)
    | (go_at_call 20; refine (frisketlaw11_content.calls K A2 c2 row (bytesOf (contL row)) wr HR3'.out HCB.out HF.out.fall).mono ?_; rintro e w5 ⟨rfl, hd⟩; have HD5 := hide hd; clear hd))
   all_goals go_ret
   all_goals exact ⟨rfl, HB6.out⟩
end Go.Proofs.YteadghhmoggjnaaB
end
section
/- What FillKeeps' calls answer. -/
set_option linter.unusedVariables false
set_option linter.unusedSimpArgs false
namespace Go.Proofs.YteadghhmoggjnaaB
open Go.RowKit
open Go.Proofs.Yteadghhmoggjnaa.Q
open Go.Proofs.YteadghhmoggjnaaW.PrintWords Go.Proofs.YteadghhmoggjnaaW.PrintLast
set_option maxHeartbeats 1600000
theorem letters_no : (List.range 8).all (fun (c : Nat) => !((letter (c : Int)).toList == [104, 121]) && decide ((letter (c : Int)).size ≤ 10)) = true := by kernel_rfl
theorem box_name (n : Int) : isHy (boxOf n) = false ∧ (boxOf n).f4.size ≤ 10 := by
 have hk := kOf_range n
 have hq : 0 ≤ wrap64 (Int.tdiv (kOf n) 12) ∧ wrap64 (Int.tdiv (kOf n) 12) < 100000 := by rw [Int.tdiv_eq_ediv_of_nonneg hk.1]; unfold wrap64; omega
 have h8 : 0 ≤ Int.tmod (wrap64 (Int.tdiv (kOf n) 12)) 8 ∧ Int.tmod (wrap64 (Int.tdiv (kOf n) 12)) 8 < 8 := by rw [Int.tmod_eq_emod_of_nonneg hq.1]; omega
 unfold boxOf
 generalize Int.tmod (kOf n) 12 = r at *
 generalize wrap64 (Int.tdiv (kOf n) 12) = q at *
 have he : isHy ⟨1, Int.tmod q 20, 0, 10, ⟨#[]⟩, ⟨#[]⟩, []⟩ = false := by show ((⟨#[]⟩ : ByteArray).toList == [104, 121]) = false; kernel_rfl
 have hl := List.all_eq_true.1 letters_no (Int.tmod q 8).toNat (List.mem_range.2 (by omega))
 rw [Int.toNat_of_nonneg h8.1, Bool.and_eq_true] at hl
 have e0 : ((⟨#[]⟩ : ByteArray).toList == [104, 121]) = false := by kernel_rfl
 have e1 : ((⟨#[126]⟩ : ByteArray).toList == [104, 121]) = false := by kernel_rfl
 unfold boxRQ
 split
 ·exact ⟨e0, Nat.zero_le _⟩
 ·split
  ·exact ⟨e0, Nat.zero_le _⟩
  ·split
   ·exact ⟨e1, by show (1 : Nat) ≤ 10; omega⟩
   ·split
    ·exact ⟨e0, Nat.zero_le _⟩
    ·split
     ·exact ⟨e0, Nat.zero_le _⟩
     ·refine ⟨?_, of_decide_eq_true hl.2⟩
      show ((letter (Int.tmod q 8)).toList == [104, 121]) = false
      simpa using hl.1
theorem core_sub (y : List S33) : ∀ x ∈ coreL y, x ∈ y := by
 unfold coreL
 split
 ·split
  ·exact fun x hx => List.mem_of_mem_take hx
  ·exact fun x hx => hx
 ·exact fun x hx => hx
theorem core_len (y : List S33) : (coreL y).length ≤ y.length := by
 unfold coreL
 split
 ·split
  ·rw [List.length_take]; omega
  ·exact Nat.le_refl _
 ·exact Nat.le_refl _
theorem told_cont (L : List (List S33)) : told L L.length = L.flatMap (fun y => contL (coreL y)) := by unfold told; rw [List.take_length]
theorem told_le (L : List (List S33)) (B : Nat) (hB : ∀ y ∈ L, (contL (coreL y)).length ≤ B) : ∀ i, (told L i).length ≤ B * L.length := by
 have key : ∀ L : List (List S33), (∀ y ∈ L, (contL (coreL y)).length ≤ B) → (L.flatMap (fun y => contL (coreL y))).length ≤ B * L.length := by
  intro L
  induction L with
  | nil => intro _; exact Nat.zero_le _
  | cons y r ih =>
   intro h
   rw [List.flatMap_cons, List.length_append, List.length_cons, Nat.mul_succ]
   have := ih (fun z hz => h z (List.mem_cons_of_mem _ hz))
   have := h y List.mem_cons_self
   omega
 intro i
 have h1 := key (L.take i) (fun y hy => hB y (List.mem_of_mem_take hy))
 have h2 : (L.take i).length ≤ L.length := List.length_take_le' _ _
 exact Nat.le_trans h1 (Nat.mul_le_mul_left _ h2)
theorem keeps_facts (ns : List Int) (a1 a2 : Int) : ∃ (K : Nat) (row : List S33) (L : List (List S33)), KpF ns K row L (wrap64 (Int.tmod (IntKind.u64.wrap a1) 200)) (wrap64 (Int.tmod (IntKind.u64.wrap a2) 200)) := by
 have h200 : ∀ a : Int, 0 ≤ wrap64 (Int.tmod (IntKind.u64.wrap a) 200) ∧ wrap64 (Int.tmod (IntKind.u64.wrap a) 200) < 200 := fun a => by
  rw [IntKind.wrap_u64, Int.tmod_eq_emod_of_nonneg (by omega)]
  unfold wrap64
  omega
 have hn1 := h200 a1
 have hn2 := h200 a2
 generalize wrap64 (Int.tmod (IntKind.u64.wrap a1) 200) = n1 at *
 generalize wrap64 (Int.tmod (IntKind.u64.wrap a2) 200) = n2 at *
 have hl := rowL_len ns
 have hno : ∀ x ∈ rowL ns, isHy x = false := fun x hx => by obtain ⟨m, rfl⟩ := rowL_mem hx; exact (box_name m).1
 have h4 : ∀ x ∈ rowL ns, x.f4.size ≤ 10 := fun x hx => by obtain ⟨m, rfl⟩ := rowL_mem hx; exact (box_name m).2
 have hfit : ∀ x ∈ rowL ns, Fit x := fun x hx => by obtain ⟨m, rfl⟩ := rowL_mem hx; exact box_fit' m
 have hv : (rowL ns).all validB = true := List.all_eq_true.2 (fun x hx => by obtain ⟨m, rfl⟩ := rowL_mem hx; exact (boxOf_ok m).1)
 obtain ⟨K1, hK1⟩ := fill_Break_ok (rowL ns) n1 n2 hyB (by omega) hfit ⟨Nat.zero_le _, Nat.zero_le _, by show (2 : Nat) ≤ _; omega⟩ (by kernel_rfl) hv ⟨hn1.1, by omega⟩ ⟨hn2.1, by omega⟩
 obtain ⟨k1, k2⟩ := keeps_lines ((rowL ns).length + 1) (rowL ns) n1 n2 (by omega) hno
 have hLL := breakGo_len hyB ((rowL ns).length + 1) (rowL ns) n1 n2
 have hLY := breakGo_all hyB (fun x => x.f4.size ≤ 10) (fun y => y.length ≤ 200 ∧ ∀ x ∈ y, x.f4.size ≤ 10) ((rowL ns).length + 1) (rowL ns) n1 n2 h4 (fun l' hl' hC => by
  have key : ∀ n, (takeL l' n hyB).1.length ≤ 200 ∧ ∀ x ∈ (takeL l' n hyB).1, x.f4.size ≤ 10 := fun n => by
   obtain ⟨p1, p2, -, -⟩ := parts_take l' n hyB
   refine ⟨by omega, fun x hx => ?_⟩
   rcases p2 x hx with h | rfl
   ·exact hC x h
   ·show (2 : Nat) ≤ 10; omega
  exact ⟨key n1, key n2⟩)
 generalize breakGo ((rowL ns).length + 1) (rowL ns) n1 n2 hyB = L at *
 have hcore : ∀ y ∈ L, (coreL y).length ≤ 200 ∧ ∀ x ∈ coreL y, x.f4.size ≤ 10 := fun y hy => ⟨Nat.le_trans (core_len y) (hLY y hy).1, fun x hx => (hLY y hy).2 x (core_sub y x hx)⟩
 have hcl : ∀ y ∈ L, (contL (coreL y)).length ≤ 2000 := fun y hy => by
  have h1 := cont_le (coreL y) (hcore y hy).2
  have := (hcore y hy).1
  omega
 have hEv : ∃ K2, ∀ k, K2 ≤ k → ∀ y ∈ L, frisketlaw11_content.f k (coreL y) = some (bytesOf (contL (coreL y))) := by
  have key : ∀ M : List (List S33), (∀ y ∈ M, y ∈ L) → ∃ K2, ∀ k, K2 ≤ k → ∀ y ∈ M, frisketlaw11_content.f k (coreL y) = some (bytesOf (contL (coreL y))) := by
   intro M
   induction M with
   | nil => exact fun _ => ⟨0, fun k _ y hy => by cases hy⟩
   | cons z r ih =>
    intro h
    obtain ⟨Ka, ha⟩ := ih (fun y hy => h y (List.mem_cons_of_mem _ hy))
    obtain ⟨Kb, hb⟩ := content_f (coreL z) (by have := (hcore z (h z List.mem_cons_self)).1; omega) (hcore z (h z List.mem_cons_self)).2
    refine ⟨max Ka Kb, fun k hk y hy => ?_⟩
    rcases List.mem_cons.1 hy with rfl | hy
    ·exact hb k (by omega)
    ·exact ha k (by omega) y hy
  exact key L (fun y hy => hy)
 obtain ⟨K2, hK2⟩ := hEv
 obtain ⟨K3, hK3⟩ := content_f (rowL ns) (by omega) h4
 refine ⟨max (max K1 K2) (max K3 482), rowL ns, L, row_f ns (by omega), hK1 _ (by omega), fun i y hy => hK2 _ (by omega) y (List.mem_of_getElem? hy), hK3 _ (by omega), by rw [told_cont]; exact k1, k2, by omega, fun i => ?_, fun i y hy => ?_⟩
 ·have h1 := told_le L 2000 hcl i
  have h2 : 2000 * L.length ≤ 2000 * 120 := Nat.mul_le_mul_left _ (by omega)
  omega
 ·have hm := List.mem_of_getElem? hy
  have := (hLY y hm).1
  have := hcl y hm
  omega
end Go.Proofs.YteadghhmoggjnaaB
end
section
/- The last step of a law's row, whatever its arguments: it returned true and only made new memory. -/
set_option linter.unusedVariables false
namespace Go.Proofs.YteadghhmoggjnaaB
open Go.ChangeShapes Go.WideShapes Go.ChangeAt Go.RowKit
section
variable {H : Type} {enc : TypeId × Value → H} {P : Program}
theorem trodAll_stays (hl : laidOutB P = true) {W W' : World} (hb : Below W.heap.size W W') : ∀ {ts : List TypeId} {vs : List Value} {ds : List (DataW H)} {ps : List MemPlace}, (∀ t ∈ ts, P.readableRec t = true ∧ t < P.types.size) →
  (∀ x ∈ ps, x.block < W.heap.size) → DataW.TrodAll enc P W 0 (fun _ => true) true ts vs ds ps → DataW.TrodAll enc P W' 0 (fun b => decide (b < W.heap.size)) true ts vs ds ps
 | [], [], [], ps, _, _, h => h
 | [], [], _ :: _, _, _, _, h => h.elim
 | [], _ :: _, _, _, _, _, h => h.elim
 | _ :: _, [], _, _, _, _, h => h.elim
 | _ :: _, _ :: _, [], _, _, _, h => h.elim
 | t :: ts, v :: vs, d :: ds, ps, hr, hp, h => by
  obtain ⟨p, q, h1, h2, rfl⟩ := h
  refine ⟨p, q, Below.trod hl (hr t (by simp)).1 (hr t (by simp)).2 h1 hb (fun x hx => hp x (by simp [hx])), trodAll_stays hl hb (fun t ht => hr t (by simp [ht])) (fun x hx => hp x (by simp [hx])) h2, rfl⟩
theorem law_post {f : Func} {s : ChangeSpec} {W W' : World} {args : Array Value} {ds : List (DataW H)} {before : List MemPlace} {b : TypeId} (hl : laidOutB P = true) (hv : s.vars = []) (hr : f.resultTypes.toList = [b]) (hb1 : f.resultTypes.size = 1) (hb : P.underlying b = some .bool)
  (hres : (s.fn H (ds ++ [])).results = [.lit (.bool true)]) (hargs : (s.fn H (ds ++ [])).args = ds) (hvars : (s.fn H (ds ++ [])).vars = []) (htypes : ∀ t ∈ f.params.toList, P.readableRec t = true ∧ t < P.types.size)
  (hW : DataW.Whole enc P f.params.toList s.vars false W args.toList ds [] before) (hbel : Below W.heap.size W W') : s.post enc P f false true false false W args (.bool true) W' := by
 have hlt := hW.lt
 have hW' := hW
 obtain ⟨p, q, h1, h2, rfl, h3, h4⟩ := hW'
 rw [hv] at h2
 have hq : q = [] := h2
 subst hq
 refine ⟨ds, [], p ++ [], [], p, [], hW, ?_, ?_, ?_, World.keptBut_mono (fun x hx => ⟨hx, .inr (.inl (by simpa using hx))⟩) (hbel.frame (· ∈ p ++ [])), fun h => by cases h⟩
 ·rw [hr, hb1, hres]
  exact trodAll_mk1 (shut_bool hb true)
 ·rw [hargs]
  exact trodAll_stays hl hbel htypes (fun x hx => hlt x (by simp [hx])) h1
 ·rw [hv, hvars]; rfl
end
end Go.Proofs.YteadghhmoggjnaaB
end
section
/- Arguments opened, with the form's own reach: boxes, numbers, the structs that the laws of chapter 11 are asked of. -/
set_option linter.unusedVariables false
namespace Go.Proofs.YteadghhmoggjnaaB
open Go.ChangeShapes Go.WideShapes Go.ChangeAt Go.RowKit Go.Deep
open Go.Proofs.Yteadghhmoggjnaa.Q (S33 k33 z33)
open Go.Proofs.YteadghhmoggjnaaW.PrintWords (Kd ReadsRow)
set_option maxRecDepth 1000000
set_option maxHeartbeats 1600000
theorem own_ : ownKnob Try.prog.godebug = none := by kernel_rfl
theorem laidOut_ : laidOutB Try.prog = true := by kernel_rfl
theorem list_of {α : Type} {Q : Nat → α → Prop} : ∀ (n : Nat), (∀ i, i < n → ∃ x, Q i x) → ∃ l : List α, l.length = n ∧ ∀ i x, l[i]? = some x → Q i x
 | 0, _ => ⟨[], rfl, fun i x h => by simp at h⟩
 | n + 1, h => by
  obtain ⟨l, hl, hq⟩ := list_of n fun i hi => h i (by omega)
  obtain ⟨x, hx⟩ := h n (by omega)
  refine ⟨l ++ [x], by simp [hl], fun i y hy => ?_⟩
  rcases Nat.lt_or_ge i l.length with hi | hi
  ·rw [List.getElem?_append_left hi] at hy; exact hq i y hy
  ·rw [List.getElem?_append_right hi] at hy
   have h0 : i - l.length = 0 := by
    rcases Nat.eq_zero_or_pos (i - l.length) with h | h
    ·exact h
    ·rw [List.getElem?_eq_none (by simp; omega)] at hy; cases hy
   rw [h0] at hy
   have e1 : i = n := by omega
   have e2 : x = y := by simpa using hy
   rw [e1, ← e2]; exact hx
/-- What a reading weighs is within reach. -/
def Light {H : Type} (P : Program) (t : TypeId) (d : DataW H) : Prop := ∀ n ∈ d.weights P t, n ≤ reachBytes
section
variable {H : Type} {enc : TypeId × Value → H} {P : Program} {w : World} {spare : Nat → Bool} {held : Bool}
theorem weightsAll_mem {e : TypeId} : ∀ {l : List (DataW H)} {d : DataW H}, d ∈ l → ∀ n ∈ d.weights P e, n ∈ DataW.weightsAll P e l
 | d' :: r, d, hd, n, hn => by
  simp only [DataW.weightsAll, List.mem_append]
  rcases List.mem_cons.1 hd with rfl | h
  ·exact Or.inl hn
  ·exact Or.inr (weightsAll_mem h n hn)
theorem open_kindS {α : Type} (d : Kind α) (Pz : α → Prop) {t e : TypeId} {cs0 : List Value} {x : DataW H × List MemPlace} {fuel : Nat} (ht : P.underlying t = some (.slice e)) (hsz : P.cellsOf e = d.sz) (hs0 : 0 < d.sz)
  (hel : ∀ (n : Nat) (cs : List Value) (y : DataW H × List MemPlace), cs.length = d.sz → DataW.trod enc P w 0 spare held n e cs = some y → Light P e y.1 → ∃ z : α, d.K w (fun _ => True) z cs ∧ Pz z)
  (hf : DataW.trod enc P w 0 spare held fuel t cs0 = some x) (hx : Light P t x.1) : ∃ A n c l, cs0 = [.slice A n c] ∧ n ≤ c ∧ c ≤ maxLen ∧ d.Rd w (fun _ => True) A n l ∧ (∀ z ∈ l, Pz z) ∧ n * P.bytesOf e ≤ reachBytes := by
 rcases open_slice ht hf with ⟨hc, -⟩ | ⟨a, len, cap, m, n, D, Pl, hc, hb, hl, hm, hmm, hxe, hi⟩
 ·exact ⟨none, 0, 0, [], hc, Nat.le_refl _, Nat.zero_le _, Kind.Rd.nil _ _ _ _, (fun z hz => by cases hz), (by rw [Nat.zero_mul]; exact Nat.zero_le _)⟩
 ·refine ⟨some a, len, cap, ?_⟩
  have hlm : len ≤ m := by rw [hmm]; split <;> omega
  have hw1 : ∀ i, i < len → Light P e (D i) := fun i hil n hn => by
   refine hx n ?_
   rw [hxe]
   simp only [DataW.weights, ht, List.mem_cons, List.mem_append]
   exact .inr (.inl (weightsAll_mem (List.mem_map.2 ⟨i, List.mem_range.2 hil, rfl⟩) n hn))
  have hw2 : len * P.bytesOf e ≤ reachBytes := by
   have := hx ((len + (m - len)) * P.bytesOf e) (by
    rw [hxe]
    simp [DataW.weights, ht])
   exact Nat.le_trans (Nat.mul_le_mul_right _ (Nat.le_add_right _ _)) this
  have hq : ∀ i, i < len → ∃ z : α, Pz z ∧ ∃ cs, d.K w (fun _ => True) z cs ∧ ∀ j u, cs[j]? = some u → w.cell? (a.add (i * d.sz + j)) = some u := by
   intro i hil
   obtain ⟨cs', h1, h2⟩ := hi i (by omega)
   rw [hsz] at h1
   obtain ⟨-, hlen, hat⟩ := World.cells?_some h1
   obtain ⟨z, hz, hPz⟩ := hel n cs' _ hlen h2 (hw1 i hil)
   refine ⟨z, hPz, cs', hz, fun j u hu => ?_⟩
   have hj : j < d.sz := by rw [← hlen]; exact (List.getElem?_eq_some_iff.1 hu).1
   rw [← add_add, hat j hj, hu]
  obtain ⟨l, hll, hlq⟩ := list_of len hq
  refine ⟨l, hc, hl, hm, ⟨hll, fun hp => ?_⟩, fun z hz => ?_, hw2⟩
  ·obtain ⟨z, hz⟩ : ∃ z, l[0]? = some z := ⟨_, List.getElem?_eq_getElem (by omega)⟩
   obtain ⟨-, cs, hK, hcell⟩ := hlq 0 z hz
   obtain ⟨u, hu⟩ : ∃ u, cs[0]? = some u := ⟨_, List.getElem?_eq_getElem (by rw [d.len hK]; omega)⟩
   have h0 := hcell 0 u hu
   rw [Nat.zero_mul, Nat.add_zero] at h0
   have ha : a.add 0 = a := by unfold Addr.add; rw [if_pos rfl]
   rw [ha] at h0
   have hfl := addr_flat h0
   refine ⟨a.block, a.off, congrArg some hfl, trivial, ?_, fun i y hy => ?_⟩
   ·rw [hfl] at h0; exact cell_lt h0
   ·obtain ⟨-, cs, hK, hcell⟩ := hlq i y hy
    refine ⟨cs, hK, fun j u hu => ?_⟩
    have := hcell j u hu
    rw [hfl, Addr.add_lit] at this
    rw [← this, Nat.add_assoc]
  ·obtain ⟨i, hi, rfl⟩ := List.mem_iff_getElem.1 hz
   exact (hlq i _ (List.getElem?_eq_getElem hi)).1
end
section
variable {H : Type} {enc : TypeId × Value → H} {w : World} {spare : Nat → Bool} {held : Bool}
theorem int_el (n : Nat) (cs : List Value) (y : DataW H × List MemPlace) (hl : cs.length = Kind.int.sz) (h : DataW.trod enc Try.prog w 0 spare held n 3 cs = some y) (hy : Light Try.prog 3 y.1) : ∃ z : Int, Kind.int.K w (fun _ => True) z cs ∧ True := by
 obtain ⟨k, e0, -, -⟩ := DataW.trod_int Try.underlying3 h
 exact ⟨k, e0, trivial⟩
end
end Go.Proofs.YteadghhmoggjnaaB
end
