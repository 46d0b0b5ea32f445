import Derived.Test.YteadghhmoggjnaaProg
import Derived.Test.YteadghhmoggjnaaRows
import Derived.Lib.IndexLaws
import Derived.Lib.Bytealg
import Derived.Laws.Externs
import Derived.Test.YteadghhmoggjnaaFM3
import Derived.Test.YteadghhmoggjnaaFM0
set_option linter.unusedVariables false
set_option linter.unusedSimpArgs false
section
section
namespace Go.Proofs.Yteadghhmoggjnaa.Q
open Go.RowKit YteadghhmoggjnaaW.PrintWords YteadghhmoggjnaaW.PrintLast YteadghhmoggjnaaW.PrintMore
attribute [local go_sem] max2_int max_two
def errW : Option Int → Value
 | none => .nilIface
 | some c => .iface 0 (.int .i64 c)
theorem errW_none : errW none = .nilIface := rfl
theorem errW_some (c : Int) : errW (some c) = .iface 0 (.int .i64 c) := rfl
theorem info3 : (Try.prog.info? 3).map (fun i => (i.zero, i.size, i.bytes)) = some (some (.int .i64 0), 1, 8) := by kernel_rfl
theorem info23 : (Try.prog.info? 23).map (fun i => (i.zero, i.size, i.bytes)) = some (some (.slice none 0 0), 1, 24) := by kernel_rfl
theorem info33 : (Try.prog.info? 33).map (fun i => (i.zero, i.size, i.bytes)) = some (some (.agg #[(.int .i64 0), (.int .i64 0), (.int .i64 0), (.int .i64 0), (.string ⟨#[]⟩), (.string ⟨#[]⟩), (.slice none 0 0)]), 7, 88) := by kernel_rfl
structure S33 where
 f0 : Int
 f1 : Int
 f2 : Int
 f3 : Int
 f4 : ByteArray
 f5 : ByteArray
 f6 : (List Int)
def z33 : S33 := ⟨(0 : Int), (0 : Int), (0 : Int), (0 : Int), (⟨#[]⟩ : ByteArray), (⟨#[]⟩ : ByteArray), ([] : List Int)⟩
def k33 : Kd S33 := Kd.iso (Kd.pair (Kd.int .i64) (Kd.pair (Kd.int .i64) (Kd.pair (Kd.int .i64) (Kd.pair (Kd.int .i64) (Kd.pair Kd.string (Kd.pair Kd.string (Kd.slice 3 (Kd.int .i64)))))))) (fun x : S33 => (x.f0, x.f1, x.f2, x.f3, x.f4, x.f5, x.f6))
theorem k33_heap : Kd.Heap k33 := Kd.heap_iso _ (Kd.heap_pair (Kd.heap_int .i64) (Kd.heap_pair (Kd.heap_int .i64) (Kd.heap_pair (Kd.heap_int .i64) (Kd.heap_pair (Kd.heap_int .i64) (Kd.heap_pair Kd.heap_string (Kd.heap_pair Kd.heap_string (Kd.heap_slice 3 (Kd.heap_int .i64))))))))
theorem k33_open {w : World} {x : S33} {cs : List Value} (h : k33.K w x cs) : ∃ A6 c6, cs = [.int .i64 x.f0, .int .i64 x.f1, .int .i64 x.f2, .int .i64 x.f3, .string x.f4, .string x.f5, .slice A6 x.f6.length c6] ∧ x.f6.length ≤ c6 ∧ (Kd.int .i64).C w A6 x.f6.length x.f6 := by
 obtain ⟨_, _, rfl, rfl, ⟨_, _, rfl, rfl, ⟨_, _, rfl, rfl, ⟨_, _, rfl, rfl, ⟨_, _, rfl, rfl, ⟨_, _, rfl, rfl, ⟨A6, c6, rfl, l6, g6⟩⟩⟩⟩⟩⟩⟩ := h
 exact ⟨A6, c6, rfl, l6, g6⟩
theorem k33_openM {w : World} {base : Nat} {ok : Nat → Prop} {x : S33} {cs : List Value} (h : k33.M w base ok x cs) : ∃ v6, cs = [.int .i64 x.f0, .int .i64 x.f1, .int .i64 x.f2, .int .i64 x.f3, .string x.f4, .string x.f5, v6] ∧ (Kd.int .i64).R 3 w base ok v6 x.f6 := by
 obtain ⟨_, _, rfl, rfl, ⟨_, _, rfl, rfl, ⟨_, _, rfl, rfl, ⟨_, _, rfl, rfl, ⟨_, _, rfl, rfl, ⟨_, _, rfl, rfl, ⟨v6, rfl, g6⟩⟩⟩⟩⟩⟩⟩ := h
 exact ⟨v6, rfl, g6⟩
theorem k33_mk (w : World) (x : S33) {A6 : Option Addr} {c6 : Nat} (l6 : x.f6.length ≤ c6) (g6 : (Kd.int .i64).C w A6 x.f6.length x.f6) : k33.K w x [.int .i64 x.f0, .int .i64 x.f1, .int .i64 x.f2, .int .i64 x.f3, .string x.f4, .string x.f5, .slice A6 x.f6.length c6] := ⟨[.int .i64 x.f0], [.int .i64 x.f1, .int .i64 x.f2, .int .i64 x.f3, .string x.f4, .string x.f5, .slice A6 x.f6.length c6], rfl, rfl, ⟨[.int .i64 x.f1], [.int .i64 x.f2, .int .i64 x.f3, .string x.f4, .string x.f5, .slice A6 x.f6.length c6], rfl, rfl, ⟨[.int .i64 x.f2], [.int .i64 x.f3, .string x.f4, .string x.f5, .slice A6 x.f6.length c6], rfl, rfl, ⟨[.int .i64 x.f3], [.string x.f4, .string x.f5, .slice A6 x.f6.length c6], rfl, rfl, ⟨[.string x.f4], [.string x.f5, .slice A6 x.f6.length c6], rfl, rfl, ⟨[.string x.f5], [.slice A6 x.f6.length c6], rfl, rfl, ⟨A6, c6, rfl, l6, g6⟩⟩⟩⟩⟩⟩⟩
theorem k33_mkM (w : World) (base : Nat) (ok : Nat → Prop) (x : S33) {v6 : Value} (g6 : (Kd.int .i64).R 3 w base ok v6 x.f6) : k33.M w base ok x [.int .i64 x.f0, .int .i64 x.f1, .int .i64 x.f2, .int .i64 x.f3, .string x.f4, .string x.f5, v6] := ⟨[.int .i64 x.f0], [.int .i64 x.f1, .int .i64 x.f2, .int .i64 x.f3, .string x.f4, .string x.f5, v6], rfl, rfl, ⟨[.int .i64 x.f1], [.int .i64 x.f2, .int .i64 x.f3, .string x.f4, .string x.f5, v6], rfl, rfl, ⟨[.int .i64 x.f2], [.int .i64 x.f3, .string x.f4, .string x.f5, v6], rfl, rfl, ⟨[.int .i64 x.f3], [.string x.f4, .string x.f5, v6], rfl, rfl, ⟨[.string x.f4], [.string x.f5, v6], rfl, rfl, ⟨[.string x.f5], [v6], rfl, rfl, ⟨v6, rfl, g6⟩⟩⟩⟩⟩⟩⟩
theorem k33_openF {W : World} {ok : Nat → Prop} {x : S33} {cs : List Value} (h : Kd.FK k33 W ok x cs) : ∃ A6 c6, cs = [.int .i64 x.f0, .int .i64 x.f1, .int .i64 x.f2, .int .i64 x.f3, .string x.f4, .string x.f5, .slice A6 x.f6.length c6] ∧ x.f6.length ≤ c6 ∧ Kd.F (Kd.int .i64) W ok A6 x.f6.length x.f6 := by
 obtain ⟨A6, c6, rfl, l6, _⟩ := k33_open (Kd.FK_now h)
 exact ⟨A6, c6, rfl, l6, (fun W' hW => by obtain ⟨A6_, c6_, he, l6_, g6_⟩ := k33_open (h W' hW); injection (Option.some.inj (show some (Value.slice A6 x.f6.length c6) = some (Value.slice A6_ x.f6.length c6_) from congrArg (fun l => l[6]?) he)) with ha_ _ _; rw [ha_]; exact g6_)⟩
theorem k33_mkF (W : World) (ok : Nat → Prop) (x : S33) {A6 : Option Addr} {c6 : Nat} (l6 : x.f6.length ≤ c6) (g6 : Kd.F (Kd.int .i64) W ok A6 x.f6.length x.f6) : Kd.FK k33 W ok x [.int .i64 x.f0, .int .i64 x.f1, .int .i64 x.f2, .int .i64 x.f3, .string x.f4, .string x.f5, .slice A6 x.f6.length c6] := fun W2 hW => k33_mk W2 x l6 (g6 W2 hW)
def rT (xs : List S33) (i : Int) : S33 := xs.getD i.toNat z33
theorem aT {w : World} {A : Option Addr} {n : Nat} {xs : List S33} (h : Kd.C k33 w A n xs) (i : Int) (h0 : 0 ≤ i) (h1 : i < n) : ∃ ad A6 c6, A = some ad ∧ w.cell? (ad.add (i.toNat * 7)) = some (.int .i64 (rT xs i).f0) ∧ w.cell? ⟨(ad.add (i.toNat * 7)).block, (ad.add (i.toNat * 7)).off + 1, none⟩ = some (.int .i64 (rT xs i).f1) ∧ w.cell? ⟨(ad.add (i.toNat * 7)).block, (ad.add (i.toNat * 7)).off + 2, none⟩ = some (.int .i64 (rT xs i).f2) ∧ w.cell? ⟨(ad.add (i.toNat * 7)).block, (ad.add (i.toNat * 7)).off + 3, none⟩ = some (.int .i64 (rT xs i).f3) ∧ w.cell? ⟨(ad.add (i.toNat * 7)).block, (ad.add (i.toNat * 7)).off + 4, none⟩ = some (.string (rT xs i).f4) ∧ w.cell? ⟨(ad.add (i.toNat * 7)).block, (ad.add (i.toNat * 7)).off + 5, none⟩ = some (.string (rT xs i).f5) ∧ w.cell? ⟨(ad.add (i.toNat * 7)).block, (ad.add (i.toNat * 7)).off + 6, none⟩ = some (.slice A6 (rT xs i).f6.length c6) ∧ (rT xs i).f6.length ≤ c6 ∧ (Kd.int .i64).C w A6 (rT xs i).f6.length (rT xs i).f6 := by
 obtain ⟨ad, c, e, _, hK, hc0⟩ := Kd.C_get h z33 i h0 h1
 have hc : ∀ j u, c[j]? = some u → w.cell? (ad.add (i.toNat * 7 + j)) = some u := hc0
 obtain ⟨A6, c6, rfl, l6, g6⟩ := k33_open hK
 exact ⟨ad, A6, c6, e, hc 0 _ rfl, by rw [← add_field _ _ 1 (by omega)]; exact hc 1 _ rfl, by rw [← add_field _ _ 2 (by omega)]; exact hc 2 _ rfl, by rw [← add_field _ _ 3 (by omega)]; exact hc 3 _ rfl, by rw [← add_field _ _ 4 (by omega)]; exact hc 4 _ rfl, by rw [← add_field _ _ 5 (by omega)]; exact hc 5 _ rfl, by rw [← add_field _ _ 6 (by omega)]; exact hc 6 _ rfl, l6, g6⟩
def rd_L4 (xs : List (List S33)) (i : Int) : (List S33) := xs.getD i.toNat ([] : List S33)
theorem at_L4 {w : World} {A : Option Addr} {n : Nat} {xs : List (List S33)} (h : Kd.C (Kd.slice 33 k33) w A n xs) (i : Int) (h0 : 0 ≤ i) (h1 : i < n) : ∃ ad A0 c0, A = some ad ∧ w.cell? (ad.add i.toNat) = some (.slice A0 (rd_L4 xs i).length c0) ∧ (rd_L4 xs i).length ≤ c0 ∧ k33.C w A0 (rd_L4 xs i).length (rd_L4 xs i) := by
 obtain ⟨ad, c, e, _, hK, hc0⟩ := Kd.C_get h ([] : List S33) i h0 h1
 have hc : ∀ j u, c[j]? = some u → w.cell? (ad.add (i.toNat * 1 + j)) = some u := hc0
 obtain ⟨A0, c0, rfl, l0, g0⟩ := hK
 exact ⟨ad, A0, c0, e, by have hq := hc 0 _ rfl; rwa [Nat.mul_one, Nat.add_zero] at hq, l0, g0⟩
end Go.Proofs.Yteadghhmoggjnaa.Q
end
section
namespace Go.Proofs.Yteadghhmoggjnaa.Q
open Go.RowKit YteadghhmoggjnaaW.PrintWords YteadghhmoggjnaaW.PrintLast YteadghhmoggjnaaW.PrintMore
attribute [local go_sem] max2_int max_two
def w_blank.f (a0 : Int) : Option (Int × Int × Int × Int × ByteArray × ByteArray × List Int) := some (1, a0, 0, 10, (⟨#[]⟩ : ByteArray), (⟨#[]⟩ : ByteArray), ([] : List Int))
set_option maxHeartbeats 8000000 in
set_option maxRecDepth 100000 in
theorem w_blank.calls (a0 : Int) (r1 : Int) (r2 : Int) (r3 : Int) (r4 : Int) (r5 : ByteArray) (r6 : ByteArray) (r7 : List Int) (w : World) (h : w_blank.f a0 = some (r1, r2, r3, r4, r5, r6, r7)) :
  Calls Try.prog 18 #[.int .i64 a0] w fun e w' => ∃ v6_ : Value, e = .returned (.agg #[.int .i64 r1, .int .i64 r2, .int .i64 r3, .int .i64 r4, .string r5, .string r6, v6_]) ∧ Kd.R (Kd.int .i64) 3 w' w.heap.size (fun _ => True) v6_ r7 ∧ Below w.heap.size w w' := by
 have hu33 := Try.underlying33
 have HB := o_ (Below.refl w.heap.size w)
 have H : (some (1, a0, 0, 10, (⟨#[]⟩ : ByteArray), (⟨#[]⟩ : ByteArray), ([] : List Int))) = some (r1, r2, r3, r4, r5, r6, r7) := h
 clear h
 simp only [Option.some.injEq, Prod.mk.injEq] at H
 obtain ⟨rfl, rfl, rfl, rfl, rfl, rfl, rfl⟩ := H
 go_enter Try.func18, Try.ntmps18
 go_wp2_with (first | ((with_reducible refine gate_dst (N := 2) rfl ?_); refine box_event ?hg (N := 2) ?hd (cs := #[.int .i64 0, .int .i64 0, .int .i64 0, .int .i64 0, .string (⟨#[]⟩ : ByteArray), .string (⟨#[]⟩ : ByteArray), .slice none 0 0]) (t := 33) ?hr ?_; (case hd => rfl); (case hg => rfl); (case hr => first | (go_simp; done) | (go_simp; rfl)); intro gb101 hg w2 hbox hb; have n0_ := o_ (below_step (by repeat (first | (with_reducible first | exact HB.out | apply below_alloc | apply pw_below_drewN | apply below_drew1) | exact HB.out)) hb); have n1_ := o_ (hbox); have n2_ := o_ ((by rw [hg]; exact (below_size (by repeat (first | (with_reducible first | exact HB.out | apply below_alloc | apply pw_below_drewN | apply below_drew1) | exact HB.out))) : w.heap.size ≤ gb101)); have n3_ := o_ ((by rw [hg]; exact (below_size (by repeat (first | (with_reducible first | exact HB.out | apply below_alloc | apply pw_below_drewN | apply below_drew1) | exact HB.out))) : w.heap.size ≤ gb101)); clear HB; have HB := n0_; have BK101 := n1_; have GW101 := n2_; have GE101 := n3_; clear n0_ n1_ n2_ n3_; clear hb hbox hg; have hcz3_0 : w2.cell? ⟨gb101, 0, none⟩ = some (.int .i64 0) := (blk_cell BK101.out 0).trans rfl; have hcz3_1 : w2.cell? ⟨gb101, 1, none⟩ = some (.int .i64 0) := (blk_cell BK101.out 1).trans rfl; have hcz3_2 : w2.cell? ⟨gb101, 2, none⟩ = some (.int .i64 0) := (blk_cell BK101.out 2).trans rfl; have hcz3_3 : w2.cell? ⟨gb101, 3, none⟩ = some (.int .i64 0) := (blk_cell BK101.out 3).trans rfl; have hcz3_4 : w2.cell? ⟨gb101, 4, none⟩ = some (.string (⟨#[]⟩ : ByteArray)) := (blk_cell BK101.out 4).trans rfl; have hcz3_5 : w2.cell? ⟨gb101, 5, none⟩ = some (.string (⟨#[]⟩ : ByteArray)) := (blk_cell BK101.out 5).trans rfl; have hcz3_6 : w2.cell? ⟨gb101, 6, none⟩ = some (.slice none 0 0) := (blk_cell BK101.out 6).trans rfl; have hfz3_0 := blk_frozen BK101.out 0; have hfz3_1 := blk_frozen BK101.out 1; have hfz3_2 := blk_frozen BK101.out 2; have hfz3_3 := blk_frozen BK101.out 3; have hfz3_4 := blk_frozen BK101.out 4; have hfz3_5 := blk_frozen BK101.out 5; have hfz3_6 := blk_frozen BK101.out 6))
 refine bodyPost_ret (results_cell_row rfl _ _ gb101 33 #[.int .i64 1, .int .i64 a0, .int .i64 0, .int .i64 10, .string (⟨#[]⟩ : ByteArray), .string (⟨#[]⟩ : ByteArray), .slice none 0 0] (0, 0) _ rfl (by (with_reducible repeat (first | refine blk_drewN ?_ _ | refine blk_drew ?_ | refine blk_alloc ?_ _)); refine blk_put (cs := #[.int .i64 1, .int .i64 a0, .int .i64 0, .int .i64 10, .string (⟨#[]⟩ : ByteArray), .string (⟨#[]⟩ : ByteArray), .slice none 0 0]) ?_ 6 _ rfl; (with_reducible repeat (first | refine blk_drewN ?_ _ | refine blk_drew ?_ | refine blk_alloc ?_ _)); refine blk_put (cs := #[.int .i64 1, .int .i64 a0, .int .i64 0, .int .i64 10, .string (⟨#[]⟩ : ByteArray), .string (⟨#[]⟩ : ByteArray), .slice none 0 0]) ?_ 5 _ rfl; (with_reducible repeat (first | refine blk_drewN ?_ _ | refine blk_drew ?_ | refine blk_alloc ?_ _)); refine blk_put (cs := #[.int .i64 1, .int .i64 a0, .int .i64 0, .int .i64 10, .string (⟨#[]⟩ : ByteArray), .string (⟨#[]⟩ : ByteArray), .slice none 0 0]) ?_ 4 _ rfl; (with_reducible repeat (first | refine blk_drewN ?_ _ | refine blk_drew ?_ | refine blk_alloc ?_ _)); refine blk_put (cs := #[.int .i64 1, .int .i64 a0, .int .i64 0, .int .i64 0, .string (⟨#[]⟩ : ByteArray), .string (⟨#[]⟩ : ByteArray), .slice none 0 0]) ?_ 3 _ rfl; (with_reducible repeat (first | refine blk_drewN ?_ _ | refine blk_drew ?_ | refine blk_alloc ?_ _)); refine blk_put (cs := #[.int .i64 1, .int .i64 a0, .int .i64 0, .int .i64 0, .string (⟨#[]⟩ : ByteArray), .string (⟨#[]⟩ : ByteArray), .slice none 0 0]) ?_ 2 _ rfl; (with_reducible repeat (first | refine blk_drewN ?_ _ | refine blk_drew ?_ | refine blk_alloc ?_ _)); refine blk_put (cs := #[.int .i64 1, .int .i64 0, .int .i64 0, .int .i64 0, .string (⟨#[]⟩ : ByteArray), .string (⟨#[]⟩ : ByteArray), .slice none 0 0]) ?_ 1 _ rfl; (with_reducible repeat (first | refine blk_drewN ?_ _ | refine blk_drew ?_ | refine blk_alloc ?_ _)); refine blk_put (cs := #[.int .i64 0, .int .i64 0, .int .i64 0, .int .i64 0, .string (⟨#[]⟩ : ByteArray), .string (⟨#[]⟩ : ByteArray), .slice none 0 0]) ?_ 0 _ rfl; (with_reducible repeat (first | refine blk_drewN ?_ _ | refine blk_drew ?_ | refine blk_alloc ?_ _)); exact BK101.out) Try.underlying33 rfl (by kernel_rfl)) rfl ?_
 exact ⟨_, by first | rfl | (simp [errW_none, errW_some] <;> rfl) | (simp [*, errW_none, errW_some] <;> rfl), by first | exact Kd.R_nil _ _ _ _ _ | exact Kd.N_nil _ _ _ _ _ | exact Kd.V_nil _ _ _ _ _ | exact Kd.Q_nil _ _ _ _ _ | exact Kd.S_nil _ _ _ _ _, by repeat (first | (with_reducible first | exact HB.out | apply below_alloc | apply pw_below_drewN | apply below_drew1 | refine below_set ?_ GE101.out) | exact HB.out)⟩
end Go.Proofs.Yteadghhmoggjnaa.Q
end
end
section
section
namespace Go.Proofs.YteadghhmoggjnaaB
open Go.RowKit
namespace Kind
section
variable {α : Type} {d : Kind α} {w w' : World} {ok ok' : Nat → Prop} {e : TypeId} {base : Nat} {v : Value} {l l1 l2 : List α} {cs news : List Value} {x : α}
theorem Rd.reps {A : Option Addr} {n : Nat} (h : d.Rd w ok A n l) : ∃ news, d.Reps w ok l news ∧ ∀ ad, A = some ad → 0 < n → ∀ j u, news[j]? = some u → w.cell? (ad.add j) = some u := by
 rcases Nat.eq_zero_or_pos n with h0 | h0
 ·have : l = [] := List.eq_nil_of_length_eq_zero (h.1.trans h0)
  subst this
  exact ⟨[], Reps.nil _ _ _, fun ad _ hp => by omega⟩
 ·obtain ⟨b, off, rfl, hb, hlt, hc⟩ := h.2 h0
  have key : ∀ k, k ≤ l.length → ∃ news, d.Reps w ok (l.take k) news ∧ ∀ j u, news[j]? = some u → w.cell? ⟨b, off + j, none⟩ = some u := by
   intro k
   induction k with
   | zero => exact fun _ => ⟨[], by simpa using Reps.nil _ _ _, fun j u hj => by simp at hj⟩
   | succ k ih =>
    intro hk
    obtain ⟨news, hr, hcell⟩ := ih (by omega)
    have hkl : k < l.length := by omega
    obtain ⟨cs, hK, hcs⟩ := hc k _ (List.getElem?_eq_getElem hkl)
    refine ⟨news ++ cs, ?_, fun j u hj => ?_⟩
    ·rw [List.take_succ_eq_append_getElem hkl]
     exact hr.snoc hK
    ·have hlen : news.length = k * d.sz := by rw [hr.1, List.length_take, Nat.min_eq_left (by omega)]
     rcases Nat.lt_or_ge j news.length with hj1 | hj1
     ·rw [List.getElem?_append_left hj1] at hj
      exact hcell j u hj
     ·rw [List.getElem?_append_right hj1] at hj
      have := hcs _ u hj
      rw [← this]
      congr 2
      omega
  obtain ⟨news, hr, hcell⟩ := key l.length (Nat.le_refl _)
  rw [List.take_length] at hr
  refine ⟨news, hr, fun ad had _ j u hj => ?_⟩
  injection had with had
  subst had
  rw [Addr.add_lit]
  exact hcell j u hj
end
end Kind
section
variable {α : Type} {d : Kind α} {w w' : World} {ok ok' : Nat → Prop} {e : TypeId} {base : Nat} {v : Value} {l l1 l2 : List α} {cs news : List Value} {x : α} {P : Program}
theorem run_append_of_nil (w : World) (base : Nat) (t ty e : TypeId) (i : TypeInfo) (size : Nat) (ht : P.underlying t = some (.slice e)) (hi : P.info? e = some i)
  (v : Value) (n : Nat) (xs : List Value) (hown : w.ownsRow base e size v n xs) (c : Nat) : (Builtin.append_ #[t, t] ty #[v, .slice none 0 c]).run P w = .ok v w := by
 rcases hown.2 with ⟨rfl, rfl⟩ | ⟨g, cap, cur, rfl, _, _, hnc, _⟩
 ·simp [Builtin.append_, run_underlying ht, sizeOf, typeInfo, hi, Builtin.lenOf, Builtin.firstCells]
 ·simp [Builtin.append_, run_underlying ht, sizeOf, typeInfo, hi, Builtin.lenOf, Builtin.firstCells, hnc, storeCells]
theorem run_append_kind (w : World) (d : Kind α) (t ty e : TypeId) (z : Value) (bytes : Nat) (ht : P.underlying t = some (.slice e)) (hinfo : (P.info? e).map (fun i => (i.zero, i.size, i.bytes)) = some (some z, d.sz, bytes))
  (hzs : z.cells.size = d.sz) (hs0 : 0 < d.sz) (hb0 : 0 < bytes) (v : Value) (l1 : List α) (hown : d.Own e w ok base v l1) (A : Option Addr) (m c : Nat) (l2 : List α) (news : List Value)
  (hR : d.Reps w ok l2 news) (hm : l2.length = m) (hA : A = none → m = 0) (hc : ∀ ad, A = some ad → 0 < m → ∀ j u, news[j]? = some u → w.cell? (ad.add j) = some u) (hok : ∀ k, ok k → v.ownBlock ≠ some k)
  (hbytes : (l1.length + m) * bytes ≤ 140737488355328) (hbase : base ≤ w.heap.size) :
  ∃ v' w', (Builtin.append_ #[t, t] ty #[v, .slice A m c]).run P w = .ok v' w' ∧ d.Own e w' ok base v' (l1 ++ l2) ∧ w.grownBy w' v.ownBlock ∧ (v'.ownBlock = v.ownBlock ∨ v'.ownBlock = some w.heap.size) ∧ (v' = .slice none 0 0 ↔ v = .slice none 0 0 ∧ m = 0) := by
 obtain ⟨i0, hi, hzz⟩ := Option.map_eq_some_iff.1 hinfo
 simp only [Prod.mk.injEq] at hzz
 obtain ⟨hz0, hz1, hz2⟩ := hzz
 obtain ⟨xs, hx, hr⟩ := hown
 have hlen : l1.length + m ≤ 140737488355328 := Nat.le_trans (Nat.le_mul_of_pos_right _ hb0) hbytes
 cases A with
 | none =>
  have h0 := hA rfl
  subst h0
  have hl2 : l2 = [] := List.eq_nil_of_length_eq_zero hm
  subst hl2
  exact ⟨v, w, run_append_of_nil w base t ty e i0 d.sz ht hi v _ xs hx c, ⟨xs, by simpa using hx, by simpa using hr⟩, World.grownBy.refl w _, .inl rfl, by simp⟩
 | some ad =>
  have hcells : ∀ j u, news[j]? = some u → w.cell? (ad.add j) = some u := by
   intro j u hu
   rcases Nat.eq_zero_or_pos m with h0 | h0
   ·have hn : news = [] := List.eq_nil_of_length_eq_zero (by rw [hR.1, hm, h0, Nat.zero_mul])
    rw [hn] at hu
    simp at hu
   ·exact hc ad rfl h0 j u hu
  obtain ⟨v', w', hrun, h2, h3, h4, h5⟩ := run_append_own_at (P := P) w base t ty e i0 z d.sz bytes ht hi hz0 hz1 hz2 hzs hs0 v l1.length xs hx ad m c news (by rw [hR.1, hm]) hcells hR.one (by unfold maxLen; omega) hbytes hbase
  refine ⟨v', w', hrun, ⟨xs ++ news, by rw [List.length_append, hm]; exact h2, ?_⟩, h3, h5, h4⟩
  exact (hr.append hR).imp fun x c hk => d.step hk fun k hk hlt => h3.block k hlt (fun e => hok k hk e.symm)
theorem wp_append_kind {o : Oper} {a : Act} {K : Act → World → Prop} {Q : Exit → Act → World → Prop} (w : World) (d : Kind α) (s x : Operand) (t : TypeId) (ho : o.op = .call { callee := .builtin .append, args := #[s, x], argTypes := #[t, t] })
  (e : TypeId) (z : Value) (bytes : Nat) (ht : P.underlying t = some (.slice e)) (hinfo : (P.info? e).map (fun i => (i.zero, i.size, i.bytes)) = some (some z, d.sz, bytes))
  (hzs : z.cells.size = d.sz) (hs0 : 0 < d.sz) (hb0 : 0 < bytes) (v : Value) (l1 : List α) (hs : a.eval s = v) (hown : d.Own e w ok base v l1) (A : Option Addr) (m c : Nat) (l2 : List α) (news : List Value) (hx : a.eval x = .slice A m c)
  (hR : d.Reps w ok l2 news) (hm : l2.length = m) (hA : A = none → m = 0) (hc : ∀ ad, A = some ad → 0 < m → ∀ j u, news[j]? = some u → w.cell? (ad.add j) = some u) (hok : ∀ k, ok k → v.ownBlock ≠ some k)
  (hbytes : (l1.length + m) * bytes ≤ 140737488355328) (hbase : base ≤ w.heap.size)
  (h : ∀ v' w', d.Own e w' ok base v' (l1 ++ l2) → w.grownBy w' v.ownBlock → (v'.ownBlock = v.ownBlock ∨ v'.ownBlock = some w.heap.size) → K (a.put o.dst v') w') : o.wp P a w K Q := by
 obtain ⟨v', w', hr, h2, h3, h4, _⟩ := run_append_kind (P := P) w d t o.type e z bytes ht hinfo hzs hs0 hb0 v l1 hown A m c l2 news hR hm hA hc hok hbytes hbase
 unfold Oper.wp execOp
 simp only [ho, resolve, invoke, builtin, Sem.run_bind, Sem.run_pure, Result.andThen_ok, List.map_toArray, List.map_cons, List.map_nil, hs, hx, hr]
 exact h v' w' h2 h3 h4
theorem wpList_append_rd {ops : Array Oper} {rest : List Oper} {o : Oper} {a : Act} {Q : Exit → Act → World → Prop} (w : World) (d : Kind α) (hgd : o.guard = none) (s x : Operand) (t : TypeId) (ho : o.op = .call { callee := .builtin .append, args := #[s, x], argTypes := #[t, t] })
  (e : TypeId) (z : Value) (bytes : Nat) (ht : P.underlying t = some (.slice e)) (hinfo : (P.info? e).map (fun i => (i.zero, i.size, i.bytes)) = some (some z, d.sz, bytes))
  (hzs : z.cells.size = d.sz) (hs0 : 0 < d.sz) (hb0 : 0 < bytes) (v : Value) (l1 : List α) (hs : a.eval s = v) (hown : d.Own e w ok base v l1) (A : Option Addr) (m c : Nat) (l2 : List α) (hx : a.eval x = .slice A m c)
  (hR : d.Rd w ok A m l2) (hok : ∀ k, ok k → v.ownBlock ≠ some k) (hbytes : (l1.length + m) * bytes ≤ 140737488355328) (hbase : base ≤ w.heap.size)
  (h : ∀ v' w', d.Own e w' ok base v' (l1 ++ l2) → w.grownBy w' v.ownBlock → (v'.ownBlock = v.ownBlock ∨ v'.ownBlock = some w.heap.size) → wpList P ops Q rest (a.put o.dst v') w') : wpList P ops Q (o :: rest) a w := by
 obtain ⟨news, hr, hc⟩ := hR.reps
 refine wpList_plain hgd fun _ hK => wp_append_kind w d s x t ho e z bytes ht hinfo hzs hs0 hb0 v l1 hs hown A m c l2 news hx hr hR.1 ?_ hc hok hbytes hbase fun v' w' h2 h3 h4 => hK _ _ (h v' w' h2 h3 h4)
 intro hA
 rcases Nat.eq_zero_or_pos m with h0 | h0
 ·exact h0
 ·obtain ⟨b, off, e1, _⟩ := hR.2 h0
  rw [hA] at e1
  cases e1
theorem wpList_append_one {ops : Array Oper} {rest : List Oper} {o : Oper} {a : Act} {Q : Exit → Act → World → Prop} (w : World) (d : Kind α) (hgd : o.guard = none) (s x : Operand) (t : TypeId) (ho : o.op = .call { callee := .builtin .append, args := #[s, x], argTypes := #[t, t] })
  (e : TypeId) (z : Value) (bytes : Nat) (ht : P.underlying t = some (.slice e)) (hinfo : (P.info? e).map (fun i => (i.zero, i.size, i.bytes)) = some (some z, d.sz, bytes))
  (hzs : z.cells.size = d.sz) (hs0 : 0 < d.sz) (hb0 : 0 < bytes) (v : Value) (l1 : List α) (hs : a.eval s = v) (hown : d.Own e w ok base v l1) (y : α) (cs : List Value) (hx : a.eval x = .slice (some ⟨w.heap.size, 0, none⟩) 1 1)
  (hK : d.K w ok y cs) (hok : ∀ k, ok k → v.ownBlock ≠ some k) (hbytes : (l1.length + 1) * bytes ≤ 140737488355328) (hbase : base ≤ w.heap.size)
  (h : ∀ v' w', d.Own e w' ok base v' (l1 ++ [y]) → w.grownBy w' v.ownBlock → (v'.ownBlock = v.ownBlock ∨ ∃ b, v'.ownBlock = some b ∧ w.heap.size < b) → wpList P ops Q rest (a.put o.dst v') w') : wpList P ops Q (o :: rest) a (w.alloc (.cells cs.toArray e)) := by
 have hown1 : d.Own e (w.alloc (.cells cs.toArray e)) ok base v l1 := by
  have hb : Below w.heap.size w (w.alloc (.cells cs.toArray e)) := (Below.refl _ _).alloc (Nat.le_refl _) _
  exact hown.below hb
 have hK1 : d.K (w.alloc (.cells cs.toArray e)) ok y cs := d.below hK ((Below.refl _ _).alloc (Nat.le_refl _) _)
 refine wpList_plain hgd fun _ hK' => wp_append_kind (w.alloc (.cells cs.toArray e)) d s x t ho e z bytes ht hinfo hzs hs0 hb0 v l1 hs hown1 (some ⟨w.heap.size, 0, none⟩) 1 1 [y] cs hx (by simpa using (Kind.Reps.nil d _ ok).snoc hK1) rfl (fun h => by cases h) ?_ hok hbytes (by simp; omega) fun v' w' h2 h3 h4 => hK' _ _ (h v' w' h2 ?_ ?_)
 ·intro ad had _ j u hu
  injection had with had
  subst had
  rw [Addr.add_lit, blk_cell (blk_new w _)]
  simpa using hu
 ·exact (World.grownBy_alloc w _ _).trans h3
 ·rcases h4 with h4 | h4
  ·exact .inl h4
  ·exact .inr ⟨_, h4, by simp⟩
end
end Go.Proofs.YteadghhmoggjnaaB
end
section
namespace Go.Proofs.YteadghhmoggjnaaB
open Go.RowKit
namespace Kind
section
variable {α : Type} {d : Kind α} {e : TypeId} {w w' : World} {ok ok' : Nat → Prop} {g cap : Nat} {m : List α} {x : α} {cs : List Value}
theorem RowAt.at_cells {i : Nat} (h : d.RowAt e w ok g cap m) (hi : i < m.length) : ∃ cur cs, w.heap[g]? = some (.cells cur e (0, 0)) ∧ i * d.sz + d.sz ≤ cur.size ∧ d.K w ok m[i] cs ∧ ∀ j, j < d.sz → cur[i * d.sz + j]? = cs[j]? := by
 obtain ⟨cs, hk, hc⟩ := h.cells hi
 obtain ⟨cur, hb, hs, hl, -, -⟩ := h
 have h1 : (i + 1) * d.sz ≤ cap * d.sz := Nat.mul_le_mul_right _ (by omega)
 rw [Nat.add_mul, Nat.one_mul] at h1
 refine ⟨cur, cs, hb, by omega, hk, fun j hj => ?_⟩
 have hl := d.len hk
 have hj' : j < cs.length := by omega
 have h2 := hc j cs[j] (List.getElem?_eq_getElem hj')
 rw [blk_cell hb] at h2
 rw [h2, List.getElem?_eq_getElem hj']
theorem RowAt.field {i j : Nat} {v : Value} {y : α} (h : d.RowAt e w ok g cap m) (hi : i < m.length) (hj : j < d.sz) (hy : ∀ cs, d.K w ok m[i] cs → d.K w ok y (cs.set j v)) (hg : ∀ k, ok k → k ≠ g) :
  d.RowAt e (w.setCell ⟨g, i * d.sz + j, none⟩ v) ok g cap (m.set i y) := by
 obtain ⟨cur, cs, hb, hsz, hk, hc⟩ := h.at_cells hi
 have hl := d.len hk
 have h2 := h.set hi (hy cs hk) hg
 have hb2 := setCells_blk g e (0, 0) (cs.set j v) (i * d.sz) w cur hb (by rw [List.length_set]; omega)
 refine h2.step ?_ (fun k hk hl => ?_)
 ·rw [hb2, blk_set hb (i * d.sz + j) v]
  congr 2
  apply Array.ext_getElem?
  intro k
  have hlt : (cur.toList.take (i * d.sz)).length = i * d.sz := by rw [List.length_take, Array.length_toList]; omega
  have hta : ∀ L : List Value, L.toArray[k]? = L[k]? := fun L => by simp
  rw [hta (cur.toList.take (i * d.sz) ++ cs.set j v ++ cur.toList.drop (i * d.sz + (cs.set j v).length)), Array.getElem?_setIfInBounds, List.append_assoc]
  rcases Nat.lt_or_ge k (i * d.sz) with h3 | h3
  ·rw [if_neg (by omega), List.getElem?_append_left (by omega), List.getElem?_take, if_pos h3]
   simp
  ·rw [List.getElem?_append_right (by omega), hlt]
   rcases Nat.lt_or_ge k (i * d.sz + d.sz) with h4 | h4
   ·rw [List.getElem?_append_left (by rw [List.length_set]; omega), List.getElem?_set]
    by_cases h5 : i * d.sz + j = k
    ·have h6 : j = k - i * d.sz := by omega
     rw [if_pos h5, if_pos h6, if_pos (by omega), if_pos (by omega)]
    ·rw [if_neg h5, if_neg (by omega)]
     have h6 := hc (k - i * d.sz) (by omega)
     rw [← h6]
     congr 1
     omega
   ·rw [if_neg (by omega), List.getElem?_append_right (by rw [List.length_set]; omega), List.getElem?_drop, List.length_set]
    rw [← Array.getElem?_toList]
    congr 1
    omega
 ·rw [setCells_other g _ _ w k (hg k hk)]
  exact Below.heap_setCell w _ _ k (hg k hk)
end
end Kind
end Go.Proofs.YteadghhmoggjnaaB
end
section
namespace Go.Proofs.YteadghhmoggjnaaB
open Go.RowKit
open Yteadghhmoggjnaa.Q (S33 k33 z33 k33_open k33_mk k33_mkM)
open YteadghhmoggjnaaW.PrintWords (Kd ReadsRow)
set_option maxHeartbeats 800000
def S33cells (x : S33) (A : Option Addr) (c : Nat) : List Value := [.int .i64 x.f0, .int .i64 x.f1, .int .i64 x.f2, .int .i64 x.f3, .string x.f4, .string x.f5, .slice A x.f6.length c]
def boxK : Kind S33 where
 sz := 7
 K := fun w ok x cs => ∃ A c, cs = S33cells x A c ∧ x.f6.length ≤ c ∧ Kind.int.Rd w ok A x.f6.length x.f6
 len := by
  rintro w ok x cs ⟨A, c, rfl, _⟩
  rfl
 one := by
  rintro w ok x cs ⟨A, c, rfl, _⟩ u hu
  simp only [S33cells, List.mem_cons, List.not_mem_nil, or_false] at hu
  rcases hu with rfl | rfl | rfl | rfl | rfl | rfl | rfl <;> rfl
 weaken := by
  rintro w ok ok' x cs hok ⟨A, c, rfl, hl, hr⟩
  exact ⟨A, c, rfl, hl, hr.weaken hok⟩
 bound := by
  rintro w ok x cs ⟨A, c, rfl, hl, hr⟩
  exact ⟨A, c, rfl, hl, hr.bound⟩
 move := by
  rintro w w' ok x cs hm ⟨A, c, rfl, hl, hr⟩
  exact ⟨A, c, rfl, hl, hr.move hm⟩
theorem addr_flat {w : World} {a : Addr} {v : Value} (h : w.cell? a = some v) : a = ⟨a.block, a.off, none⟩ := by
 obtain ⟨b, o, s⟩ := a
 cases s with
 | none => rfl
 | some s => unfold World.cell? at h; split at h <;> simp at h
theorem rd_of_C {α : Type} {d : Kd α} {d' : Kind α} {w : World} {A : Option Addr} {n : Nat} {l : List α} (hsz : d.sz = d'.sz) (hpos : 0 < d.sz) (hK : ∀ x cs, d.K w x cs → d'.K w (fun _ => True) x cs) (h : d.C w A n l) : d'.Rd w (fun _ => True) A n l := by
 obtain ⟨hl, hm, hn⟩ := h
 refine ⟨hl, fun hp => ?_⟩
 obtain ⟨ad, rfl, hc⟩ := hn hp
 obtain ⟨x0, hx0⟩ : ∃ x, l[0]? = some x := ⟨_, List.getElem?_eq_getElem (by omega)⟩
 obtain ⟨c0, hs0, hr0, hcell0⟩ := hc 0 x0 hx0
 have h0 := hcell0 0 _ (List.getElem?_eq_getElem (by omega))
 rw [Nat.zero_mul, Nat.add_zero] at h0
 have ha : ad.add 0 = ad := by unfold Addr.add; rw [if_pos rfl]
 rw [ha] at h0
 have hf := addr_flat h0
 rw [hf] at h0
 refine ⟨ad.block, ad.off, congrArg some hf, trivial, cell_lt h0, fun i x hx => ?_⟩
 obtain ⟨c, hs, hr, hcell⟩ := hc i x hx
 refine ⟨c, hK x c hr, fun j u hu => ?_⟩
 have h1 := hcell j u hu
 rw [hf, Addr.add_lit, hsz] at h1
 rw [← h1, Nat.add_assoc]
theorem rd_ints {w : World} {A : Option Addr} {n : Nat} {l : List Int} (h : (Kd.int .i64).C w A n l) : Kind.int.Rd w (fun _ => True) A n l := rd_of_C (d' := Kind.int) rfl (by decide) (fun x cs h => h) h
theorem rd_boxes {w : World} {A : Option Addr} {n : Nat} {l : List S33} (h : k33.C w A n l) : boxK.Rd w (fun _ => True) A n l := rd_of_C (d' := boxK) rfl (by decide) (fun x cs h => by
 obtain ⟨A6, c6, rfl, l6, g6⟩ := k33_open h
 exact ⟨A6, c6, rfl, l6, rd_ints g6⟩) h
theorem C_of_rd {α : Type} {d : Kd α} {d' : Kind α} {w : World} {ok : Nat → Prop} {A : Option Addr} {n : Nat} {l : List α} (hsz : d.sz = d'.sz) (hK : ∀ x cs, d'.K w ok x cs → d.K w x cs) (hn : n ≤ 9223372036854775807) (h : d'.Rd w ok A n l) : d.C w A n l := by
 refine ⟨h.1, hn, fun hp => ?_⟩
 obtain ⟨b, off, rfl, -, -, hc⟩ := h.2 hp
 refine ⟨_, rfl, fun j x hx => ?_⟩
 obtain ⟨cs, hk, hcs⟩ := hc j x hx
 refine ⟨cs, by rw [d'.len hk, hsz], hK x cs hk, fun i u hu => ?_⟩
 rw [Addr.add_lit, hsz, ← hcs i u hu, Nat.add_assoc]
theorem C_ints {w : World} {ok : Nat → Prop} {A : Option Addr} {n : Nat} {l : List Int} (hn : n ≤ 9223372036854775807) (h : Kind.int.Rd w ok A n l) : (Kd.int .i64).C w A n l := C_of_rd (d := Kd.int .i64) (d' := Kind.int) rfl (fun x cs h => h) hn h
theorem R_ints {e : Nat} {w : World} {ok ok' : Nat → Prop} {base : Nat} {v : Value} {l : List Int} (h : Kind.int.Own e w ok base v l) (hok : ∀ k, v.ownBlock = some k → ok' k) : (Kd.int .i64).R e w base ok' v l := by
 obtain ⟨xs, ho, hr⟩ := h
 exact ⟨hok, xs, ho, hr.1, fun j p hj => hr.2 j p hj⟩
theorem info_int : (Try.prog.info? 3).map (fun i => (i.zero, i.size, i.bytes)) = some (some (.int .i64 0), 1, 8) := by kernel_rfl
theorem info_box : (Try.prog.info? 33).map (fun i => (i.zero, i.size, i.bytes)) = some (some (.agg #[.int .i64 0, .int .i64 0, .int .i64 0, .int .i64 0, .string ⟨#[]⟩, .string ⟨#[]⟩, .slice none 0 0]), 7, 88) := by kernel_rfl
theorem Clone_int (A : Option Addr) (n c : Nat) (l : List Int) (ok : Nat → Prop) (w : World) (hr : Kind.int.Rd w ok A n l) (hn : n ≤ 17592186044416) :
  Calls Try.prog 59 #[.slice A n c] w fun e w' => ∃ v, e = .returned v ∧ Kind.int.Own 3 w' (fun k => ok k ∧ k < w.heap.size) w.heap.size v l ∧ Below w.heap.size w w' := by
 have HR := hide hr
 clear hr
 cases A with
 | none =>
  have heq := fun W => Lib.run_eql_slice_nil (P := Try.prog) W 22 3 none n c 0 0 Try.underlying22
  go_enter Try.func59, Try.ntmps59
  go_wp2_with fail
  go_ret
  have hl : l = [] := by
   rcases Nat.eq_zero_or_pos n with h0 | h0
   ·exact List.eq_nil_of_length_eq_zero (by have := HR.out.1; omega)
   ·obtain ⟨b, off, e, _⟩ := HR.out.2 h0
    cases e
  subst hl
  exact ⟨_, rfl, Kind.Own.nil _ _ _ _ _, Below.refl _ _⟩
 | some ad =>
  have heq := fun W => Lib.run_eql_slice_nil (P := Try.prog) W 22 3 (some ad) n c 0 0 Try.underlying22
  have hw0 : Below w.heap.size w (w.alloc (.cells #[] 3)) := (Below.refl _ _).alloc (Nat.le_refl _) _
  have HRD := hide (HR.out.bound.below hw0)
  have HOK := hide (show ∀ k, (ok k ∧ k < w.heap.size) → (Value.slice (some ⟨w.heap.size, 0, none⟩) 0 0).ownBlock ≠ some k from fun k hk e => by simp [Value.ownBlock] at e; omega)
  clear hw0
  go_enter Try.func59, Try.ntmps59
  go_wp2_with (at_builtin; refine wpList_append_rd (ok := fun k => ok k ∧ k < w.heap.size) (base := w.heap.size) (w.alloc (.cells #[] 3)) Kind.int rfl _ _ 22 rfl 3 _ 8 Try.underlying22 info_int rfl (by decide) (by decide) _ [] rfl ⟨[], World.ownsRow_made w #[] 0 (Nat.le_refl _) (Nat.zero_le _) rfl, Kind.Reps.nil _ _ _⟩ (some ad) n c l rfl HRD.out HOK.out (by simp; omega) (by simp) ?_; intro v1 w1 hown1 hg1 hat1)
  go_ret
  refine ⟨v1, rfl, by simpa using hown1, ?_⟩
  exact ((Below.refl _ _).alloc (Nat.le_refl _) _).grown hg1 (by simp) (fun k hk => by have h2 : w.heap.size = k := Option.some.inj hk; omega)
theorem Clone_box (A : Option Addr) (n c : Nat) (l : List S33) (ok : Nat → Prop) (w : World) (hr : boxK.Rd w ok A n l) (hn : n ≤ 1000000000000) :
  Calls Try.prog 58 #[.slice A n c] w fun e w' => ∃ v, e = .returned v ∧ boxK.Own 33 w' (fun k => ok k ∧ k < w.heap.size) w.heap.size v l ∧ Below w.heap.size w w' := by
 have HR := hide hr
 clear hr
 cases A with
 | none =>
  have heq := fun W => Lib.run_eql_slice_nil (P := Try.prog) W 23 33 none n c 0 0 Try.underlying23
  go_enter Try.func58, Try.ntmps58
  go_wp2_with fail
  go_ret
  have hl : l = [] := by
   rcases Nat.eq_zero_or_pos n with h0 | h0
   ·exact List.eq_nil_of_length_eq_zero (by have := HR.out.1; omega)
   ·obtain ⟨b, off, e, _⟩ := HR.out.2 h0
    cases e
  subst hl
  exact ⟨_, rfl, Kind.Own.nil _ _ _ _ _, Below.refl _ _⟩
 | some ad =>
  have heq := fun W => Lib.run_eql_slice_nil (P := Try.prog) W 23 33 (some ad) n c 0 0 Try.underlying23
  have hw0 : Below w.heap.size w (w.alloc (.cells #[] 33)) := (Below.refl _ _).alloc (Nat.le_refl _) _
  have HRD := hide (HR.out.bound.below hw0)
  have HOK := hide (show ∀ k, (ok k ∧ k < w.heap.size) → (Value.slice (some ⟨w.heap.size, 0, none⟩) 0 0).ownBlock ≠ some k from fun k hk e => by simp [Value.ownBlock] at e; omega)
  clear hw0
  go_enter Try.func58, Try.ntmps58
  go_wp2_with (at_builtin; refine wpList_append_rd (ok := fun k => ok k ∧ k < w.heap.size) (base := w.heap.size) (w.alloc (.cells #[] 33)) boxK rfl _ _ 23 rfl 33 _ 88 Try.underlying23 info_box rfl (by decide) (by decide) _ [] rfl ⟨[], World.ownsRow_made w #[] 0 (Nat.le_refl _) (Nat.zero_le _) rfl, Kind.Reps.nil _ _ _⟩ (some ad) n c l rfl HRD.out HOK.out (by simp; omega) (by simp) ?_; intro v1 w1 hown1 hg1 hat1)
  go_ret
  refine ⟨v1, rfl, by simpa using hown1, ?_⟩
  exact ((Below.refl _ _).alloc (Nat.le_refl _) _).grown hg1 (by simp) (fun k hk => by have h2 : w.heap.size = k := Option.some.inj hk; omega)
end Go.Proofs.YteadghhmoggjnaaB
end
end
