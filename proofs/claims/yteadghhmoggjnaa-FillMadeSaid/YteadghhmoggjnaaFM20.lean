import Derived.Test.YteadghhmoggjnaaFM17
import Derived.Test.YteadghhmoggjnaaFM16
set_option linter.unusedVariables false
set_option linter.unusedSimpArgs false
section
namespace Go.Proofs.Yteadghhmoggjnaa.Q
open Go.RowKit YteadghhmoggjnaaW.PrintWords YteadghhmoggjnaaW.PrintLast YteadghhmoggjnaaW.PrintMore
attribute [local go_sem] max2_int max_two
set_option maxHeartbeats 8000000
set_option maxRecDepth 100000
mutual
def r_take.l0 : Nat → List (S33) → Int → Int → Int → Int → Int → Int → Int → ByteArray → ByteArray → List Int → Option ((List (S33)) × (List (S33)) × Bool)
 | 0, _, _, _, _, _, _, _, _, _, _, _ => none
 | k + 1, x0, x1, x9, x10, gg0, gg1, gg2, gg3, gg4, gg5, gg6 => r_take.l1 k x0 x1 x9 x10 gg0 gg1 gg2 gg3 gg4 gg5 gg6
def r_take.j2 : Nat → List (S33) → Int → Int → Int → Int → Int → Int → Int → ByteArray → ByteArray → List Int → Option ((List (S33)) × (List (S33)) × Bool)
 | 0, _, _, _, _, _, _, _, _, _, _, _ => none
 | k + 1, x0, x1, x9, x10, gg0, gg1, gg2, gg3, gg4, gg5, gg6 => if x10 = (x0.length : Int) then (some (x0, ([] : List (S33)), false)) else ((r_word.f k x0 x10).bind fun t466 => (if 0 ≤ (wrap64 (x10 + t466)) then (if (wrap64 (x10 + t466)) ≤ (x0.length : Int) then ((s_Width.f k (x0.take ((wrap64 (x10 + t466)) : Int).toNat)).bind fun t472 => (if t472 ≤ x1 then (r_take.l0 k x0 x1 (wrap64 (x10 + t466)) (wrap64 (x10 + t466)) gg0 gg1 gg2 gg3 gg4 gg5 gg6) else (if 0 ≤ x10 then (if x10 ≤ (wrap64 (x10 + t466)) then ((some ((x0.take ((wrap64 (x10 + t466)) : Int).toNat).drop (x10 : Int).toNat : List (S33))).bind fun y473 => ((r_places.f k y473).bind fun t478 => (r_take.l2 k x0 x1 x9 x10 t466 y473 t478 (wrap64 ((t478.length : Int) - 1)) gg0 gg1 gg2 gg3 gg4 gg5 gg6))) else (none)) else (none)))) else (none)) else (none)))
def r_take.l2 : Nat → List (S33) → Int → Int → Int → Int → List (S33) → List Int → Int → Int → Int → Int → Int → ByteArray → ByteArray → List Int → Option ((List (S33)) × (List (S33)) × Bool)
 | 0, _, _, _, _, _, _, _, _, _, _, _, _, _, _, _ => none
 | k + 1, x0, x1, x9, x10, x11, x12, x13, x14, gg0, gg1, gg2, gg3, gg4, gg5, gg6 => if x14 ≥ 0 then (if 0 ≤ x10 then (if x10 ≤ (x0.length : Int) then (if 0 ≤ x14 then (if x14 < (x13.length : Int) then ((r_cut.f (x0.take (x10 : Int).toNat) x12 (rd x13 x14) gg0 gg1 gg2 gg3 gg4 gg5 gg6).bind fun t487 => ((s_Width.f k t487).bind fun t490 => (if t490 ≤ x1 then (if 0 ≤ (wrap64 ((wrap64 (x10 + (rd x13 x14))) + 1)) then (if (wrap64 ((wrap64 (x10 + (rd x13 x14))) + 1)) ≤ (x0.length : Int) then (some (t487, (x0.drop ((wrap64 ((wrap64 (x10 + (rd x13 x14))) + 1)) : Int).toNat), true)) else (none)) else (none)) else (r_take.l2 k x0 x1 x9 x10 x11 x12 x13 (wrap64 (x14 - 1)) gg0 gg1 gg2 gg3 gg4 gg5 gg6)))) else (none)) else (none)) else (none)) else (none)) else (if x9 > 0 then (if 0 ≤ x9 then (if x9 ≤ (x0.length : Int) then (if 0 ≤ x10 then (if x10 ≤ (x0.length : Int) then (some ((x0.take (x9 : Int).toNat), (x0.drop (x10 : Int).toNat), true)) else (none)) else (none)) else (none)) else (none)) else (if (x13.length : Int) > 0 then (if 0 < (x13.length : Int) then ((r_cut.f ([] : List (S33)) x12 (rd x13 0) gg0 gg1 gg2 gg3 gg4 gg5 gg6).bind fun t508 => (if 0 ≤ (wrap64 ((rd x13 0) + 1)) then (if (wrap64 ((rd x13 0) + 1)) ≤ (x0.length : Int) then (some (t508, (x0.drop ((wrap64 ((rd x13 0) + 1)) : Int).toNat), true)) else (none)) else (none))) else (none)) else (if 0 ≤ x11 then (if x11 ≤ (x0.length : Int) then ((r_front.f k (x0.drop (x11 : Int).toNat)).bind fun t527 => (some ((x0.take (x11 : Int).toNat), t527, true))) else (none)) else (none))))
def r_take.l1 : Nat → List (S33) → Int → Int → Int → Int → Int → Int → Int → ByteArray → ByteArray → List Int → Option ((List (S33)) × (List (S33)) × Bool)
 | 0, _, _, _, _, _, _, _, _, _, _, _ => none
 | k + 1, x0, x1, x9, x10, gg0, gg1, gg2, gg3, gg4, gg5, gg6 => if x10 < (x0.length : Int) then (if 0 ≤ x10 then ((r_Blank.f ((rT x0 x10).f0) ((rT x0 x10).f1) ((rT x0 x10).f2) ((rT x0 x10).f3) ((rT x0 x10).f4) ((rT x0 x10).f5) ((rT x0 x10).f6)).bind fun t465 => (if t465 = true then (r_take.l1 k x0 x1 x9 (wrap64 (x10 + 1)) gg0 gg1 gg2 gg3 gg4 gg5 gg6) else (r_take.j2 k x0 x1 x9 x10 gg0 gg1 gg2 gg3 gg4 gg5 gg6))) else (none)) else (r_take.j2 k x0 x1 x9 x10 gg0 gg1 gg2 gg3 gg4 gg5 gg6)
end
def r_take.f (k : Nat) (l0 : List (S33)) (a1 : Int) (a2_0 : Int) (a2_1 : Int) (a2_2 : Int) (a2_3 : Int) (a2_4 : ByteArray) (a2_5 : ByteArray) (l2_6 : List Int) : Option ((List (S33)) × (List (S33)) × Bool) := (r_front.f k l0).bind fun t461 => (r_take.l0 k t461 a1 0 0 a2_0 a2_1 a2_2 a2_3 a2_4 a2_5 l2_6)
def r_take.T17 : Bool × List (List Nat × List Nat) := (true, [([], []), ([], []), ([0, 1], [0, 1]), ([], []), ([], []), ([], []), ([4, 5], [4, 5]), ([6], [6]), ([], []), ([2, 3, 7, 8], [2, 3, 7, 8]), ([9, 9, 0, 1, 2, 3, 4, 5, 6, 7, 8, 9], [9])])
def r_take.B17 : List Nat := [0, 0, 3, 0, 0, 0, 48, 112, 0, 511, 1023]
theorem r_take.tab17 : rtab .any (opsOf Try.f69 17) = r_take.T17 := by kernel_rfl
theorem r_take.bits17 : waitsOk r_take.T17.2 r_take.B17 = true := by kernel_rfl
def r_take.T19 : Bool × List (List Nat × List Nat) := (true, [([], []), ([], []), ([], []), ([], []), ([], []), ([3, 4], [3, 4]), ([5], [5]), ([2, 6], [2, 6]), ([7], [7]), ([1, 8], [1, 8]), ([0, 0], [0]), ([9, 10, 0, 1, 2, 3, 4, 5, 6, 7, 8, 9, 10], [9]), ([11, 0, 1, 2, 3, 4, 5, 6, 7, 8, 9, 10, 11], [])])
def r_take.B19 : List Nat := [0, 0, 0, 0, 0, 24, 56, 124, 252, 510, 1, 2047, 4095]
theorem r_take.tab19 : rtab .any (opsOf Try.f69 19) = r_take.T19 := by kernel_rfl
theorem r_take.bits19 : waitsOk r_take.T19.2 r_take.B19 = true := by kernel_rfl
def r_take.T21 : Bool × List (List Nat × List Nat) := (true, [([], []), ([], []), ([0, 1], [0, 1]), ([], []), ([], []), ([3, 4], [3, 4]), ([2, 0, 1, 2], [2]), ([5, 6, 0, 1, 2, 3, 4, 5, 6], [5]), ([7, 0, 1, 2, 3, 4, 5, 6, 7], [])])
def r_take.B21 : List Nat := [0, 0, 3, 0, 0, 24, 7, 127, 255]
theorem r_take.tab21 : rtab .any (opsOf Try.f69 21) = r_take.T21 := by kernel_rfl
theorem r_take.bits21 : waitsOk r_take.T21.2 r_take.B21 = true := by kernel_rfl
def r_take.T23 : Bool × List (List Nat × List Nat) := (true, [([], []), ([], []), ([1], [1]), ([2], [2]), ([], []), ([0, 3, 4], [0, 3, 4]), ([], []), ([], []), ([7], [7]), ([8], [8]), ([9], [9]), ([6, 10], [6, 10]), ([5, 5, 0, 1, 2, 3, 4, 5], [5]), ([11, 12, 0, 1, 2, 3, 4, 5, 6, 7, 8, 9, 10, 11, 12], [11]), ([13, 0, 1, 2, 3, 4, 5, 6, 7, 8, 9, 10, 11, 12, 13], [])])
def r_take.B23 : List Nat := [0, 0, 2, 6, 0, 31, 0, 0, 128, 384, 896, 1984, 63, 8191, 16383]
theorem r_take.tab23 : rtab .any (opsOf Try.f69 23) = r_take.T23 := by kernel_rfl
theorem r_take.bits23 : waitsOk r_take.T23.2 r_take.B23 = true := by kernel_rfl
def r_take.T24 : Bool × List (List Nat × List Nat) := (true, [([], []), ([], []), ([0, 1], [0, 1]), ([], []), ([], []), ([3, 4], [3, 4]), ([5], [5]), ([2, 6, 0, 1, 2], [2]), ([6, 7, 0, 1, 2, 3, 4, 5, 6, 7], [6]), ([8, 0, 1, 2, 3, 4, 5, 6, 7, 8], [])])
def r_take.B24 : List Nat := [0, 0, 3, 0, 0, 24, 56, 127, 255, 511]
theorem r_take.tab24 : rtab .any (opsOf Try.f69 24) = r_take.T24 := by kernel_rfl
theorem r_take.bits24 : waitsOk r_take.T24.2 r_take.B24 = true := by kernel_rfl
theorem r_take.calls (k : Nat) (P0_ : Nat → Prop) (A0 : Option Addr) (c0 : Nat) (l0 : List (S33)) (a1 : Int) (a2_0 : Int) (a2_1 : Int) (a2_2 : Int) (a2_3 : Int) (a2_4 : ByteArray) (a2_5 : ByteArray) (P2_6_ : Nat → Prop) (A2_6 : Option Addr) (c2_6 : Nat) (l2_6 : List Int) (r1 : List (S33)) (r2 : List (S33)) (r3 : Bool) (w : World) (hs0 : Kd.V k33 33 w w.heap.size (fun k_ => P0_ k_) (.slice A0 l0.length c0) l0) (hs2_6 : Kd.V (Kd.int .i64) 3 w w.heap.size (fun k_ => P2_6_ k_) (.slice A2_6 l2_6.length c2_6) l2_6) (h : r_take.f k l0 a1 a2_0 a2_1 a2_2 a2_3 a2_4 a2_5 l2_6 = some (r1, r2, r3)) :
  Calls Try.prog 69 #[.slice A0 l0.length c0, .int .i64 a1, .agg #[.int .i64 a2_0, .int .i64 a2_1, .int .i64 a2_2, .int .i64 a2_3, .string a2_4, .string a2_5, .slice A2_6 l2_6.length c2_6]] w fun e w' => ∃ v0_ v1_ : Value, e = .returned (.tuple #[v0_, v1_, .bool r3]) ∧ Kd.V k33 33 w' w.heap.size (fun k_ => ((P0_ k_ ∨ P2_6_ k_) ∨ w.heap.size ≤ k_)) v0_ r1 ∧ Kd.V k33 33 w' w.heap.size (fun k_ => ((P0_ k_ ∨ P2_6_ k_) ∨ w.heap.size ≤ k_)) v1_ r2 ∧ Below w.heap.size w w' := by
 have hu33 := Try.underlying33
 have HO0 := o_ (show Kd.V k33 33 w w.heap.size (fun k_ => ((P0_ k_ ∨ P2_6_ k_) ∨ w.heap.size ≤ k_)) (.slice A0 l0.length c0) l0 from Kd.V_mono hs0 (fun k_ hk => .inl (.inl hk)))
 have HO2_6 := o_ (show Kd.V (Kd.int .i64) 3 w w.heap.size (fun k_ => ((P0_ k_ ∨ P2_6_ k_) ∨ w.heap.size ≤ k_)) (.slice A2_6 l2_6.length c2_6) l2_6 from Kd.V_mono hs2_6 (fun k_ hk => .inl (.inr hk)))
 have HB := o_ (Below.refl w.heap.size w)
 have H : ((r_front.f k l0).bind fun t461 => (r_take.l0 k t461 a1 0 0 a2_0 a2_1 a2_2 a2_3 a2_4 a2_5 l2_6)) = some (r1, r2, r3) := h
 clear h
 obtain ⟨t461, A40, H⟩ := qb H
 try dsimp only at H
 have A4 := o_ A40
 clear A40
 have H' := o_ H
 clear H
 go_enter Try.func69, Try.ntmps69
 go_wp2_with (first | ((with_reducible refine gate_dst (N := 5) rfl ?_); refine box_event ?hg (N := 5) ?hd (cs := #[.int .i64 a2_0, .int .i64 a2_1, .int .i64 a2_2, .int .i64 a2_3, .string a2_4, .string a2_5, .slice A2_6 l2_6.length c2_6]) (t := 33) ?hr ?_; (case hd => rfl); (case hg => rfl); (case hr => first | (go_simp; done) | (go_simp; rfl)); intro gb460 hg w5 hbox hb; have n0_ := o_ (Kd.V_below (Kd.V_elderB (Vu HO0) gb460 (Nat.le_of_eq hg.symm)) hb); have n1_ := o_ (Kd.V_below (Kd.V_elderB (Vu HO2_6) gb460 (Nat.le_of_eq hg.symm)) hb); have n2_ := o_ (below_step (bl HB) hb); have n3_ := o_ (hbox); have n4_ := o_ ((by rw [hg]; exact (below_size (bl HB)) : w.heap.size ≤ gb460)); have n5_ := o_ ((by rw [hg]; exact (below_size (bl HB)) : w.heap.size ≤ gb460)); clear HO0; clear HO2_6; clear HB; have HO0 := n0_; have HO2_6 := n1_; have HB := n2_; have BK460 := n3_; have GW460 := n4_; have GE460 := n5_; clear n0_ n1_ n2_ n3_ n4_ n5_; clear hb hbox hg) | (go_at_call 70; (with_reducible refine (r_front.calls k (fun k_ => (((P0_ k_ ∨ P2_6_ k_) ∨ w.heap.size ≤ k_) ∧ k_ ≠ gb460)) _ _ l0 t461 _ ?side1 A4.out).mono ?_); (case side1 => exact HO0.out); rintro e w6 ⟨v462, rfl, ho0, hb⟩; have n0_ := o_ (Kd.V_below (Vu HO0) hb); have n1_ := o_ (Kd.V_below (Vu HO2_6) hb); have n2_ := o_ (Kd.V_lower (Kd.V_mono (ok' := fun k_ => ((P0_ k_ ∨ P2_6_ k_) ∨ w.heap.size ≤ k_) ∧ k_ ≠ gb460) ho0 (fun k_ hk_ => ⟨Or.elim hk_ (fun hs_ => hs_.1) (fun hn_ => (.inr (Nat.le_trans (below_size (bl HB)) hn_))), Or.elim hk_ (fun hs_ => hs_.2) (fun hn_ => (Kd.freshB (g := gb460) (o := .cells #[.int .i64 a2_0, .int .i64 a2_1, .int .i64 a2_2, .int .i64 a2_3, .string a2_4, .string a2_5, .slice A2_6 l2_6.length c2_6] 33 (0, 0)) (bu BK460) k_ hn_))⟩)) (below_size (bl HB))); have n3_ := o_ (blk_below (g := gb460) (o := .cells #[.int .i64 a2_0, .int .i64 a2_1, .int .i64 a2_2, .int .i64 a2_3, .string a2_4, .string a2_5, .slice A2_6 l2_6.length c2_6] 33 (0, 0)) (bu BK460) hb); have n4_ := o_ (below_step (bl HB) hb); clear HO0; clear HO2_6; clear BK460; clear HB; have HO0 := n0_; have HO2_6 := n1_; have HO463 := n2_; have BK460 := n3_; have HB := n4_; clear n0_ n1_ n2_ n3_ n4_; (try clear hb); (try clear ho0)))
 go_loopg [9, 10] k (fun kq v9 v10 w' => ∃ (x9_1 : Int) (x10_1 : Int), v9 = .int .i64 x9_1 ∧ v10 = .int .i64 x10_1 ∧ As (r_take.l0 kq t461 a1 x9_1 x10_1 a2_0 a2_1 a2_2 a2_3 a2_4 a2_5 l2_6 = some (r1, r2, r3)) ∧ As (kq ≤ k) ∧ As (Kd.V k33 33 w' w.heap.size (fun k_ => ((P0_ k_ ∨ P2_6_ k_) ∨ w.heap.size ≤ k_) ∧ k_ ≠ gb460) v462 t461) ∧ As (Kd.V (Kd.int .i64) 3 w' w.heap.size (fun k_ => ((P0_ k_ ∨ P2_6_ k_) ∨ w.heap.size ≤ k_) ∧ k_ ≠ gb460) (.slice A2_6 l2_6.length c2_6) l2_6) ∧ As (w'.heap[gb460]? = some (.cells #[.int .i64 a2_0, .int .i64 a2_1, .int .i64 a2_2, .int .i64 a2_3, .string a2_4, .string a2_5, (.slice A2_6 l2_6.length c2_6)] 33 (0, 0))) ∧ As (Below w.heap.size w w'))
 case atStart => exact ⟨(0), (0), (by first | rfl | simp [*]), (by first | rfl | simp [*]), H', ⟨Nat.le_refl _⟩, ⟨Vu HO463⟩, ⟨Vu HO2_6⟩, ⟨bu BK460⟩, ⟨bl HB⟩⟩
 case round =>
  clear H'
  obtain ⟨x9_1, x10_1, rfl, rfl, HA, HK1, HO_0, HO_461006, BK460, HB⟩ := hrel
  cases gk with
  | zero => exact absurd HA.out (by simp [r_take.l0])
  | succ k1 =>
   have H := HA.out
   clear HA
   simp only [r_take.l0] at H
   have HC7 := o_ H
   clear H
   go_upto_block 2 with (fail)
   go_cut [10] (fun v10 wc => ∃ (kq : Nat) (x10_6 : Int), v10 = .int .i64 x10_6 ∧ As (r_take.j2 kq t461 a1 x9_1 x10_6 a2_0 a2_1 a2_2 a2_3 a2_4 a2_5 l2_6 = some (r1, r2, r3)) ∧ As (kq ≤ k1) ∧ As (Kd.V k33 33 wc w.heap.size (fun k_ => ((P0_ k_ ∨ P2_6_ k_) ∨ w.heap.size ≤ k_) ∧ k_ ≠ gb460) v462 t461) ∧ As (Kd.V (Kd.int .i64) 3 wc w.heap.size (fun k_ => ((P0_ k_ ∨ P2_6_ k_) ∨ w.heap.size ≤ k_) ∧ k_ ≠ gb460) (.slice A2_6 l2_6.length c2_6) l2_6) ∧ As (wc.heap[gb460]? = some (.cells #[.int .i64 a2_0, .int .i64 a2_1, .int .i64 a2_2, .int .i64 a2_3, .string a2_4, .string a2_5, (.slice A2_6 l2_6.length c2_6)] 33 (0, 0))) ∧ As (Below w.heap.size w wc))
   case first =>
    have H := HC7.out
    clear HC7
    have H' := o_ H
    clear H
    go_wp2
    go_loopg [10] k1 (fun kq v10 w' => ∃ (x10_2 : Int), v10 = .int .i64 x10_2 ∧ As (r_take.l1 kq t461 a1 x9_1 x10_2 a2_0 a2_1 a2_2 a2_3 a2_4 a2_5 l2_6 = some (r1, r2, r3)) ∧ As (kq ≤ k1) ∧ As (Kd.V k33 33 w' w.heap.size (fun k_ => ((P0_ k_ ∨ P2_6_ k_) ∨ w.heap.size ≤ k_) ∧ k_ ≠ gb460) v462 t461) ∧ As (Kd.V (Kd.int .i64) 3 w' w.heap.size (fun k_ => ((P0_ k_ ∨ P2_6_ k_) ∨ w.heap.size ≤ k_) ∧ k_ ≠ gb460) (.slice A2_6 l2_6.length c2_6) l2_6) ∧ As (w'.heap[gb460]? = some (.cells #[.int .i64 a2_0, .int .i64 a2_1, .int .i64 a2_2, .int .i64 a2_3, .string a2_4, .string a2_5, (.slice A2_6 l2_6.length c2_6)] 33 (0, 0))) ∧ As (Below w.heap.size w w'))
    case atStart => exact ⟨(x10_1), (by first | rfl | simp [*]), H', ⟨Nat.le_refl _⟩, ⟨Vu HO_0⟩, ⟨Vu HO_461006⟩, ⟨bu BK460⟩, ⟨bl HB⟩⟩
    case round =>
     clear H'
     obtain ⟨x10_2, rfl, HA, HK2, HO_0, HO_461006, BK460, HB⟩ := hrel
     cases gk with
     | zero => exact absurd HA.out (by simp [r_take.l1])
     | succ k2 =>
      have H := HA.out
      clear HA
      simp only [r_take.l1] at H
      by_cases c8 : x10_2 < (t461.length : Int)
      rotate_left
      ·rw [if_neg c8] at H
       have c8b0 := decide_eq_false c8
       clear c8
       (first | rw [c8b0] | (simp only [i64_w, i32_w]; rw [c8b0]) | skip)
       have H' := o_ H
       clear H
       obtain ⟨Ao16, co16, eo16⟩ := Kd.V_slice HO_0.out
       subst eo16
       go_wp2
       go_meet
       case rel => exact ⟨_, (x10_2), (by first | rfl | simp [*]), H', ⟨by have := HK1.out; have := HK2.out; first | omega | exact Nat.le_refl _⟩, ⟨Vu HO_0⟩, ⟨Vu HO_461006⟩, ⟨bu BK460⟩, ⟨bl HB⟩⟩
      rw [if_pos c8] at H
      have c8b0 := decide_eq_true c8
      clear c8
      (first | rw [c8b0] | (simp only [i64_w, i32_w]; rw [c8b0]) | skip)
      by_cases c9 : 0 ≤ x10_2
      rotate_left
      ·rw [if_neg c9] at H
       exact absurd H (by simp)
      rw [if_pos c9] at H
      have c9b0 := decide_eq_true c9
      clear c9
      obtain ⟨t465, A100, H⟩ := qb H
      try dsimp only at H
      have A10 := o_ A100
      clear A100
      by_cases c11 : t465 = true
      ·subst c11
       have H1 : (r_take.l1 k2 t461 a1 x9_1 (wrap64 (x10_2 + 1)) a2_0 a2_1 a2_2 a2_3 a2_4 a2_5 l2_6) = some (r1, r2, r3) := by rw [if_pos rfl] at H; exact H
       clear H
       have H := H1
       clear H1
       have H' := o_ H
       clear H
       obtain ⟨Ao12, co12, eo12⟩ := Kd.V_slice HO_0.out
       subst eo12
       have p464 : 0 ≤ (x10_2 : Int) := oa
       have q464 : x10_2 < (t461.length : Int) := oa
       obtain ⟨ad464, A464_6, c464_6, e464, hx464_0, hx464_1, hx464_2, hx464_3, hx464_4, hx464_5, hx464_6, hl464_6, hi464_6⟩ := aT (Kd.V_reads' HO_0.out).2.2 x10_2 p464 q464
       cases e464
       obtain ⟨ce464, hce464, hMe464, hcc464⟩ := Kd.V_get HO_0.out z33 x10_2 p464 (by first | exact q464 | exact oa | (have e_ := (Kd.V_reads' HO_0.out).1; omega))
       obtain ⟨ua464_6, uc464_6, rfl, ul464_6, ge464_6⟩ := k33_openF hMe464
       have hv464_6 := hcc464 6 _ rfl
       rw [add_field _ _ 6 (by omega)] at hv464_6
       replace hv464_6 := Option.some.inj (hv464_6.symm.trans hx464_6)
       injection hv464_6 with hva_ hvn_ hvc_
       rw [hva_] at ge464_6
       rw [hvc_] at ul464_6
       have HL464_6 := o_ (show Kd.V (Kd.int .i64) 3 _ w.heap.size _ _ ((rT t461 x10_2).f6) from Kd.V_mk ul464_6 ge464_6)
       clear hva_ hvn_ hvc_ ge464_6 ul464_6
       clear hcc464 hce464
       have HR464_6 := o_ hi464_6
       have HC464_6 := o_ hl464_6
       clear hi464_6 hl464_6
       replace p464 := eq_true p464
       replace q464 := eq_true q464
       go_wp2_with (first | (go_at_call 22; (with_reducible refine (r_Blank.calls ((rT t461 x10_2).f0) ((rT t461 x10_2).f1) ((rT t461 x10_2).f2) ((rT t461 x10_2).f3) ((rT t461 x10_2).f4) ((rT t461 x10_2).f5) _ _ ((rT t461 x10_2).f6) true _ ?side1 ?side2 A10.out).mono ?_); (case side1 => repeat (first | exact (by repeat (first | (with_reducible exact HR464_6.out) | (with_reducible refine Kd.C_alloc ?_ _) | (with_reducible refine Kd.C_drewN ?_ _) | (with_reducible refine Kd.C_drew ?_) | exact HR464_6.out)) | (with_reducible refine Kd.C_alloc ?_ _) | (with_reducible refine Kd.C_drewN ?_ _) | (with_reducible refine Kd.C_drew ?_))); (case side2 => exact HC464_6.out); rintro e w13 ⟨rfl, hb⟩; have n0_ := o_ (Kd.V_below (Vu HO_0) hb); have n1_ := o_ (Kd.V_below (Vu HO_461006) hb); have n2_ := o_ (Kd.V_below (Vu HL464_6) hb); have n3_ := o_ (blk_below (g := gb460) (o := .cells #[.int .i64 a2_0, .int .i64 a2_1, .int .i64 a2_2, .int .i64 a2_3, .string a2_4, .string a2_5, .slice A2_6 l2_6.length c2_6] 33 (0, 0)) (bu BK460) hb); have n4_ := o_ (Kd.C_below (by repeat (first | (with_reducible exact HR464_6.out) | (with_reducible refine Kd.C_alloc ?_ _) | (with_reducible refine Kd.C_drewN ?_ _) | (with_reducible refine Kd.C_drew ?_) | exact HR464_6.out)) hb); have n5_ := o_ (below_step (bl HB) hb); clear HO_0; clear HO_461006; clear HL464_6; clear BK460; clear HR464_6; clear HB; have HO_0 := n0_; have HO_461006 := n1_; have HL464_6 := n2_; have BK460 := n3_; have HR464_6 := n4_; have HB := n5_; clear n0_ n1_ n2_ n3_ n4_ n5_; (try clear hb)))
       go_roundg k2
       case measure => have := HK1.out; have := HK2.out; omega
       case rel => exact ⟨(wrap64 (x10_2 + 1)), (by first | rfl | simp [*]), H', ⟨by have := HK1.out; have := HK2.out; omega⟩, ⟨Vu HO_0⟩, ⟨Vu HO_461006⟩, ⟨bu BK460⟩, ⟨bl HB⟩⟩
      replace c11 := Bool.eq_false_iff.mpr c11
      subst c11
      have H1 : (r_take.j2 k2 t461 a1 x9_1 x10_2 a2_0 a2_1 a2_2 a2_3 a2_4 a2_5 l2_6) = some (r1, r2, r3) := by rw [if_neg (show ¬ (false = true) by decide)] at H; exact H
      clear H
      have H := H1
      clear H1
      have H' := o_ H
      clear H
      obtain ⟨Ao14, co14, eo14⟩ := Kd.V_slice HO_0.out
      subst eo14
      have p464 : 0 ≤ (x10_2 : Int) := oa
      have q464 : x10_2 < (t461.length : Int) := oa
      obtain ⟨ad464, A464_6, c464_6, e464, hx464_0, hx464_1, hx464_2, hx464_3, hx464_4, hx464_5, hx464_6, hl464_6, hi464_6⟩ := aT (Kd.V_reads' HO_0.out).2.2 x10_2 p464 q464
      cases e464
      obtain ⟨ce464, hce464, hMe464, hcc464⟩ := Kd.V_get HO_0.out z33 x10_2 p464 (by first | exact q464 | exact oa | (have e_ := (Kd.V_reads' HO_0.out).1; omega))
      obtain ⟨ua464_6, uc464_6, rfl, ul464_6, ge464_6⟩ := k33_openF hMe464
      have hv464_6 := hcc464 6 _ rfl
      rw [add_field _ _ 6 (by omega)] at hv464_6
      replace hv464_6 := Option.some.inj (hv464_6.symm.trans hx464_6)
      injection hv464_6 with hva_ hvn_ hvc_
      rw [hva_] at ge464_6
      rw [hvc_] at ul464_6
      have HL464_6 := o_ (show Kd.V (Kd.int .i64) 3 _ w.heap.size _ _ ((rT t461 x10_2).f6) from Kd.V_mk ul464_6 ge464_6)
      clear hva_ hvn_ hvc_ ge464_6 ul464_6
      clear hcc464 hce464
      have HR464_6 := o_ hi464_6
      have HC464_6 := o_ hl464_6
      clear hi464_6 hl464_6
      replace p464 := eq_true p464
      replace q464 := eq_true q464
      go_wp2_with (first | (go_at_call 22; (with_reducible refine (r_Blank.calls ((rT t461 x10_2).f0) ((rT t461 x10_2).f1) ((rT t461 x10_2).f2) ((rT t461 x10_2).f3) ((rT t461 x10_2).f4) ((rT t461 x10_2).f5) _ _ ((rT t461 x10_2).f6) false _ ?side1 ?side2 A10.out).mono ?_); (case side1 => repeat (first | exact (by repeat (first | (with_reducible exact HR464_6.out) | (with_reducible refine Kd.C_alloc ?_ _) | (with_reducible refine Kd.C_drewN ?_ _) | (with_reducible refine Kd.C_drew ?_) | exact HR464_6.out)) | (with_reducible refine Kd.C_alloc ?_ _) | (with_reducible refine Kd.C_drewN ?_ _) | (with_reducible refine Kd.C_drew ?_))); (case side2 => exact HC464_6.out); rintro e w15 ⟨rfl, hb⟩; have n0_ := o_ (Kd.V_below (Vu HO_0) hb); have n1_ := o_ (Kd.V_below (Vu HO_461006) hb); have n2_ := o_ (Kd.V_below (Vu HL464_6) hb); have n3_ := o_ (blk_below (g := gb460) (o := .cells #[.int .i64 a2_0, .int .i64 a2_1, .int .i64 a2_2, .int .i64 a2_3, .string a2_4, .string a2_5, .slice A2_6 l2_6.length c2_6] 33 (0, 0)) (bu BK460) hb); have n4_ := o_ (Kd.C_below (by repeat (first | (with_reducible exact HR464_6.out) | (with_reducible refine Kd.C_alloc ?_ _) | (with_reducible refine Kd.C_drewN ?_ _) | (with_reducible refine Kd.C_drew ?_) | exact HR464_6.out)) hb); have n5_ := o_ (below_step (bl HB) hb); clear HO_0; clear HO_461006; clear HL464_6; clear BK460; clear HR464_6; clear HB; have HO_0 := n0_; have HO_461006 := n1_; have HL464_6 := n2_; have BK460 := n3_; have HR464_6 := n4_; have HB := n5_; clear n0_ n1_ n2_ n3_ n4_ n5_; (try clear hb)))
      go_meet
      case rel => exact ⟨_, (x10_2), (by first | rfl | simp [*]), H', ⟨by have := HK1.out; have := HK2.out; first | omega | exact Nat.le_refl _⟩, ⟨Vu HO_0⟩, ⟨Vu HO_461006⟩, ⟨bu BK460⟩, ⟨bl HB⟩⟩
   case rest =>
    clear HC7
    try clear q4
    try clear hx4
    try clear hx464_0
    try clear hx464_1
    try clear hx464_2
    try clear hx464_3
    try clear hx464_4
    try clear hx464_5
    try clear hx464_6
    try clear q464
    obtain ⟨kq, x10_6, rfl, HA, HJ6, HO_0, HO_461006, BK460, HB⟩ := hcut
    cases kq with
    | zero => exact absurd HA.out (by simp [r_take.j2])
    | succ kj6 =>
     have H := HA.out
     clear HA
     simp only [r_take.j2] at H
     by_cases c17 : x10_6 = (t461.length : Int)
     ·rw [if_pos c17] at H
      have c17b0 : (x10_6 == (t461.length : Int)) = true := beq_iff_eq.mpr c17
      have c17b1 : (x10_6 != (t461.length : Int)) = false := bne_eq_false_iff_eq.mpr c17
      clear c17
      simp only [Option.some.injEq, Prod.mk.injEq] at H
      obtain ⟨rfl, rfl, rfl⟩ := H
      obtain ⟨Ao18, co18, eo18⟩ := Kd.V_slice HO_0.out
      subst eo18
      go_wp2
      go_ret3
      exact ⟨_, _, by first | rfl | (simp [*] <;> rfl), by (with_reducible repeat (first | apply Kd.V_alloc | apply Kd.V_drewN | apply Kd.V_drew)); exact Kd.V_mono HO_0.out (fun _ hk => hk.1), (by first | exact Kd.V_nil _ _ _ _ _ | exact Kd.N_V (base := w.heap.size) (Kd.N_nil _ _ _ _ _)), bl HB⟩
     rw [if_neg c17] at H
     have c17b0 : (x10_6 == (t461.length : Int)) = false := beq_eq_false_iff_ne.mpr c17
     have c17b1 : (x10_6 != (t461.length : Int)) = true := bne_iff_ne.mpr c17
     obtain ⟨t466, A190, H⟩ := qb H
     try dsimp only at H
     have A19 := o_ A190
     clear A190
     obtain ⟨ji20, hji20⟩ : ∃ j_ : Int, (wrap64 (x10_6 + t466)) = j_ := ⟨_, rfl⟩
     replace H : (if 0 ≤ (ji20) then (if (ji20) ≤ (t461.length : Int) then ((s_Width.f kj6 (t461.take ((ji20) : Int).toNat)).bind fun t472 => (if t472 ≤ a1 then (r_take.l0 kj6 t461 a1 ji20 ji20 a2_0 a2_1 a2_2 a2_3 a2_4 a2_5 l2_6) else (if 0 ≤ x10_6 then (if x10_6 ≤ (ji20) then ((some ((t461.take ((ji20) : Int).toNat).drop (x10_6 : Int).toNat : List (S33))).bind fun y473 => ((r_places.f kj6 y473).bind fun t478 => (r_take.l2 kj6 t461 a1 x9_1 x10_6 t466 y473 t478 (wrap64 ((t478.length : Int) - 1)) a2_0 a2_1 a2_2 a2_3 a2_4 a2_5 l2_6))) else (none)) else (none)))) else (none)) else (none)) = some (r1, r2, r3) := by first | (rw [hji20] at H; exact H) | (simp only [hji20] at H ⊢; exact H)
     (try rw [hji20] at A19)
     have hji20w : (IntKind.i64.wrap (x10_6 + t466)) = ji20 := (i64_w _).trans hji20
     by_cases c21 : 0 ≤ (ji20)
     rotate_left
     ·rw [if_neg c21] at H
      exact absurd H (by simp)
     rw [if_pos c21] at H
     have c21b0 := eq_true c21
     have c21b1 := decide_eq_true c21
     clear c21
     by_cases c22 : (ji20) ≤ (t461.length : Int)
     rotate_left
     ·rw [if_neg c22] at H
      exact absurd H (by simp)
     rw [if_pos c22] at H
     have c22b0 := eq_true c22
     have c22b1 := decide_eq_true c22
     clear c22
     obtain ⟨y467, hy467⟩ : ∃ y_ : List (S33), y_ = (t461.take ((ji20) : Int).toNat) := ⟨_, rfl⟩
     replace H : ((s_Width.f kj6 y467).bind fun t472 => (if t472 ≤ a1 then (r_take.l0 kj6 t461 a1 ji20 ji20 a2_0 a2_1 a2_2 a2_3 a2_4 a2_5 l2_6) else (if 0 ≤ x10_6 then (if x10_6 ≤ (ji20) then ((some ((t461.take ((ji20) : Int).toNat).drop (x10_6 : Int).toNat : List (S33))).bind fun y473 => ((r_places.f kj6 y473).bind fun t478 => (r_take.l2 kj6 t461 a1 x9_1 x10_6 t466 y473 t478 (wrap64 ((t478.length : Int) - 1)) a2_0 a2_1 a2_2 a2_3 a2_4 a2_5 l2_6))) else (none)) else (none)))) = some (r1, r2, r3) := by first | (rw [hy467]; with_reducible exact H) | (have H2_ := (Option.bind_some _ _).symm.trans H; rw [hy467]; with_reducible exact H2_) | (have H2_ := (Option.bind_some _ _).symm.trans H; with_reducible exact H2_) | with_reducible exact H | (rw [hy467]; exact H) | exact H
     have Ny467 := o_ hy467
     clear hy467
     obtain ⟨t472, A230, H⟩ := qb H
     try dsimp only at H
     have A23 := o_ A230
     clear A230
     by_cases c24 : t472 ≤ a1
     ·rw [if_pos c24] at H
      have c24b0 := decide_eq_true c24
      clear c24
      have H' := o_ H
      clear H
      obtain ⟨Ao25, co25, eo25⟩ := Kd.V_slice HO_0.out
      subst eo25
      go_wp2_with (first | (go_at_call 41; (with_reducible refine (r_word.calls kj6 _ _ t461 x10_6 t466 _ ?side1 ?side2 A19.out).mono ?_); (case side1 => exact Cu ⟨(Kd.V_reads' HO_0.out).2.2⟩); (case side2 => exact (Kd.V_reads' HO_0.out).2.1); rintro e w26 ⟨rfl, hb⟩; have n0_ := o_ (Kd.V_below (Vu HO_0) hb); have n1_ := o_ (Kd.V_below (Vu HO_461006) hb); have n2_ := o_ (blk_below (g := gb460) (o := .cells #[.int .i64 a2_0, .int .i64 a2_1, .int .i64 a2_2, .int .i64 a2_3, .string a2_4, .string a2_5, .slice A2_6 l2_6.length c2_6] 33 (0, 0)) (bu BK460) hb); have n3_ := o_ (below_step (bl HB) hb); clear HO_0; clear HO_461006; clear BK460; clear HB; have HO_0 := n0_; have HO_461006 := n1_; have BK460 := n2_; have HB := n3_; clear n0_ n1_ n2_ n3_; (try clear hb); have q27 : ((ji20) : Int) ≤ ((t461.length : Int) : Int) := oa; obtain ⟨i027, hi027, _, hsz27, _⟩ := info_parts info33; have hroom27 : t461.length ≤ co25 := (Kd.V_reads' HO_0.out).2.1; have hC27 : Kd.F k33 _ _ Ao25 t461.length t461 := (Kd.V_at (base := w.heap.size) HO_0.out).2.2; have hcut27 := cut_to (P := Try.prog) 23 33 .i64 Try.underlying23 hi027 Ao25 t461.length co25 (ji20) (oa) q27 hroom27; have hr27 := Kd.F_take (m := ((ji20) : Int).toNat) hC27 (by omega); have hy27 : y467.length = ((ji20) : Int).toNat := (by rw [Ny467.out, List.length_take]; omega); rw [← Ny467.out] at hr27; rw [← hy27] at hcut27; have HO471 := o_ (show Kd.V k33 33 _ w.heap.size _ (.slice Ao25 y467.length co25) y467 from Kd.V_mk (by omega) hr27); have HC471 := o_ (show y467.length ≤ co25 from by omega); clear hr27 hC27 hroom27 hi027 hsz27; have KY27 := o_ hy27; clear hy27; replace q27 := eq_true q27) | ((with_reducible refine gate_callee (f := 13) rfl ?_); refine goesL_ (some 44) rfl rfl Try.func13 (by kernel_rfl) rfl #[.slice Ao25 y467.length co25] rfl (by (try simp only [List.map_toArray, List.map_cons, List.map_nil]); first | done | rfl | (simp only [List.length_drop, List.length_take]; rfl)) ?_; (with_reducible refine (s_Width.calls kj6 _ _ y467 t472 _ ?side1 ?side2 A23.out).mono ?_); (case side1 => exact Cu ⟨(Kd.V_reads' HO471.out).2.2⟩); (case side2 => exact (Kd.V_reads' HO471.out).2.1); rintro e w' ⟨rfl, ⟨nd, rfl⟩⟩; refine ⟨_, rfl, ?_⟩))
      go_roundg kj6
      case measure => have := HK1.out; have := HJ6.out; omega
      case rel => exact ⟨(ji20), (ji20), (by first | rfl | (simp; done) | (simp only [← hji20] <;> (first | rfl | simp)) | (simp [*]; done)), (by first | rfl | (simp; done) | (simp only [← hji20] <;> (first | rfl | simp)) | (simp [*]; done)), H', ⟨by have := HK1.out; have := HJ6.out; omega⟩, ⟨Vu HO_0⟩, ⟨Vu HO_461006⟩, ⟨bu BK460⟩, ⟨bl HB⟩⟩
     rw [if_neg c24] at H
     have c24b0 := decide_eq_false c24
     clear c24
     by_cases c28 : 0 ≤ x10_6
     rotate_left
     ·rw [if_neg c28] at H
      exact absurd H (by simp)
     rw [if_pos c28] at H
     have c28b0 := eq_true c28
     have c28b1 := decide_eq_true c28
     clear c28
     by_cases c29 : x10_6 ≤ (ji20)
     rotate_left
     ·rw [if_neg c29] at H
      exact absurd H (by simp)
     rw [if_pos c29] at H
     have c29b0 := eq_true c29
     have c29b1 := decide_eq_true c29
     clear c29
     have c30b0 := eq_true (oa : (ji20) ≤ (t461.length : Int))
     obtain ⟨y473, hy473⟩ : ∃ y_ : List (S33), y_ = ((t461.take ((ji20) : Int).toNat).drop (x10_6 : Int).toNat) := ⟨_, rfl⟩
     replace H : ((r_places.f kj6 y473).bind fun t478 => (r_take.l2 kj6 t461 a1 x9_1 x10_6 t466 y473 t478 (wrap64 ((t478.length : Int) - 1)) a2_0 a2_1 a2_2 a2_3 a2_4 a2_5 l2_6)) = some (r1, r2, r3) := by first | (rw [hy473]; with_reducible exact H) | (have H2_ := (Option.bind_some _ _).symm.trans H; rw [hy473]; with_reducible exact H2_) | (have H2_ := (Option.bind_some _ _).symm.trans H; with_reducible exact H2_) | with_reducible exact H | (rw [hy473]; exact H) | exact H
     have Ny473 := o_ hy473
     clear hy473
     obtain ⟨t478, A310, H⟩ := qb H
     try dsimp only at H
     have A31 := o_ A310
     clear A310
     have H' := o_ H
     clear H
     obtain ⟨Ao32, co32, eo32⟩ := Kd.V_slice HO_0.out
     subst eo32
     go_wp2_with (first | (go_at_call 41; (with_reducible refine (r_word.calls kj6 _ _ t461 x10_6 t466 _ ?side1 ?side2 A19.out).mono ?_); (case side1 => exact Cu ⟨(Kd.V_reads' HO_0.out).2.2⟩); (case side2 => exact (Kd.V_reads' HO_0.out).2.1); rintro e w33 ⟨rfl, hb⟩; have n0_ := o_ (Kd.V_below (Vu HO_0) hb); have n1_ := o_ (Kd.V_below (Vu HO_461006) hb); have n2_ := o_ (blk_below (g := gb460) (o := .cells #[.int .i64 a2_0, .int .i64 a2_1, .int .i64 a2_2, .int .i64 a2_3, .string a2_4, .string a2_5, .slice A2_6 l2_6.length c2_6] 33 (0, 0)) (bu BK460) hb); have n3_ := o_ (below_step (bl HB) hb); clear HO_0; clear HO_461006; clear BK460; clear HB; have HO_0 := n0_; have HO_461006 := n1_; have BK460 := n2_; have HB := n3_; clear n0_ n1_ n2_ n3_; (try clear hb); have q34 : ((ji20) : Int) ≤ ((t461.length : Int) : Int) := oa; obtain ⟨i034, hi034, _, hsz34, _⟩ := info_parts info33; have hroom34 : t461.length ≤ co32 := (Kd.V_reads' HO_0.out).2.1; have hC34 : Kd.F k33 _ _ Ao32 t461.length t461 := (Kd.V_at (base := w.heap.size) HO_0.out).2.2; have hcut34 := cut_to (P := Try.prog) 23 33 .i64 Try.underlying23 hi034 Ao32 t461.length co32 (ji20) (oa) q34 hroom34; have hr34 := Kd.F_take (m := ((ji20) : Int).toNat) hC34 (by omega); have hy34 : y467.length = ((ji20) : Int).toNat := (by rw [Ny467.out, List.length_take]; omega); rw [← Ny467.out] at hr34; rw [← hy34] at hcut34; have HO471 := o_ (show Kd.V k33 33 _ w.heap.size _ (.slice Ao32 y467.length co32) y467 from Kd.V_mk (by omega) hr34); have HC471 := o_ (show y467.length ≤ co32 from by omega); clear hr34 hC34 hroom34 hi034 hsz34; have KY34 := o_ hy34; clear hy34; replace q34 := eq_true q34) | (go_at_call 13; (with_reducible refine (s_Width.calls kj6 _ _ y467 t472 _ ?side1 ?side2 A23.out).mono ?_); (case side1 => exact Cu ⟨(Kd.V_reads' HO471.out).2.2⟩); (case side2 => exact (Kd.V_reads' HO471.out).2.1); rintro e w' ⟨rfl, ⟨nd, rfl⟩⟩; have q35 : ((ji20) : Int) ≤ ((t461.length : Int) : Int) := oa; obtain ⟨i035, hi035, _, hsz35, _⟩ := info_parts info33; have hroom35 : t461.length ≤ co32 := (Kd.V_reads' HO_0.out).2.1; have hC35 : Kd.F k33 _ _ Ao32 t461.length t461 := (Kd.V_at (base := w.heap.size) HO_0.out).2.2; have ql35 : (x10_6 : Int) ≤ ((ji20) : Int) := oa; have q035 : (0 : Int) ≤ (x10_6 : Int) := oa; have hcut35 := cut_mid (P := Try.prog) 23 33 .i64 .i64 Try.underlying23 hi035 7 hsz35 Ao32 t461.length co32 x10_6 (ji20) q035 ql35 q35 hroom35; have hr35 := Kd.F_mid (lo := (x10_6 : Int).toNat) (hi := ((ji20) : Int).toNat) (c := co32) hC35 (by omega) (by omega) hroom35; obtain ⟨A35, hA35⟩ : ∃ A1, A1 = (if co32 = (x10_6 : Int).toNat then Ao32 else (Ao32 : Option Addr).map (·.add ((x10_6 : Int).toNat * 7))) := ⟨_, rfl⟩; obtain ⟨c35, hc35⟩ : ∃ c1, c1 = co32 - (x10_6 : Int).toNat := ⟨_, rfl⟩; have hy35 : y473.length = ((ji20) : Int).toNat - (x10_6 : Int).toNat := (by rw [Ny473.out, List.length_drop, List.length_take] <;> omega); rw [show ((t461).take ((ji20) : Int).toNat).drop (x10_6 : Int).toNat = y473 from Ny473.out.symm] at hr35; replace hr35 : Kd.F k33 _ _ A35 y473.length y473 := (by rw [hA35]; exact hr35); rw [← hy35, ← hA35, ← hc35] at hcut35; have HO477 := o_ (show Kd.V k33 33 _ w.heap.size _ (.slice A35 y473.length c35) y473 from Kd.V_mk (by rw [hy35, hc35]; exact Nat.sub_le_sub_right (Nat.le_trans (by omega) hroom35) _) hr35); have HC477 := o_ (show y473.length ≤ c35 from by rw [hy35, hc35]; exact Nat.sub_le_sub_right (Nat.le_trans (by omega) hroom35) _); clear hr35 hC35 hroom35 hi035 hsz35 hc35; have KY35 := o_ hy35; have KA35 := o_ hA35; clear hy35 hA35; replace q35 := eq_true q35) | (go_at_call 80; (with_reducible refine (r_places.calls kj6 _ _ y473 t478 _ ?side1 ?side2 A31.out).mono ?_); (case side1 => exact Cu ⟨(Kd.V_reads' HO477.out).2.2⟩); (case side2 => exact (Kd.V_reads' HO477.out).2.1); rintro e w36 ⟨v479, rfl, ho0, hb⟩; have n0_ := o_ (Kd.V_elder' (Vu HO_0) (Kd.R_base ho0) hb); have n1_ := o_ (Kd.V_elder' (Vu HO_461006) (Kd.R_base ho0) hb); have n2_ := o_ (Kd.V_elder' (Vu HO471) (Kd.R_base ho0) hb); have n3_ := o_ (Kd.V_elder' (Vu HO477) (Kd.R_base ho0) hb); have n4_ := o_ (Kd.R_lower (Kd.R_newM (M := fun k_ => (w.heap.size ≤ k_)) ho0 (below_size (bl HB)) (fun k_ h_ => h_)) (below_size (bl HB))); have n5_ := o_ (blk_below (g := gb460) (o := .cells #[.int .i64 a2_0, .int .i64 a2_1, .int .i64 a2_2, .int .i64 a2_3, .string a2_4, .string a2_5, .slice A2_6 l2_6.length c2_6] 33 (0, 0)) (bu BK460) hb); have n6_ := o_ (below_step (bl HB) hb); clear HO_0; clear HO_461006; clear HO471; clear HO477; clear BK460; clear HB; have HO_0 := n0_; have HO_461006 := n1_; have HO471 := n2_; have HO477 := n3_; have HO480 := n4_; have BK460 := n5_; have HB := n6_; clear n0_ n1_ n2_ n3_ n4_ n5_ n6_; (try clear hb); (try clear ho0); obtain ⟨Ao37, co37, eo37⟩ := Kd.R_slice HO480.out; subst eo37))
     go_loopg [14] kj6 (fun kq v14 w' => ∃ (x14_3 : Int), v14 = .int .i64 x14_3 ∧ As (r_take.l2 kq t461 a1 x9_1 x10_6 t466 y473 t478 x14_3 a2_0 a2_1 a2_2 a2_3 a2_4 a2_5 l2_6 = some (r1, r2, r3)) ∧ As (kq ≤ kj6) ∧ As (Kd.V k33 33 w' w.heap.size (fun k_ => ((P0_ k_ ∨ P2_6_ k_) ∨ w.heap.size ≤ k_) ∧ some k_ ≠ ((.slice Ao37 t478.length co37) : Value).ownBlock ∧ k_ ≠ gb460) (.slice Ao32 t461.length co32) t461) ∧ As (Kd.V k33 33 w' w.heap.size (fun k_ => ((P0_ k_ ∨ P2_6_ k_) ∨ w.heap.size ≤ k_) ∧ some k_ ≠ ((.slice Ao37 t478.length co37) : Value).ownBlock ∧ k_ ≠ gb460) (.slice A35 y473.length c35) y473) ∧ As (Kd.R (Kd.int .i64) 3 w' w.heap.size (fun k_ => (w.heap.size ≤ k_)) (.slice Ao37 t478.length co37) t478) ∧ As (Kd.V (Kd.int .i64) 3 w' w.heap.size (fun k_ => ((P0_ k_ ∨ P2_6_ k_) ∨ w.heap.size ≤ k_) ∧ some k_ ≠ ((.slice Ao37 t478.length co37) : Value).ownBlock ∧ k_ ≠ gb460) (.slice A2_6 l2_6.length c2_6) l2_6) ∧ As (w'.heap[gb460]? = some (.cells #[.int .i64 a2_0, .int .i64 a2_1, .int .i64 a2_2, .int .i64 a2_3, .string a2_4, .string a2_5, (.slice A2_6 l2_6.length c2_6)] 33 (0, 0))) ∧ As (Below w.heap.size w w'))
     case atStart => exact ⟨(wrap64 ((t478.length : Int) - 1)), (by first | rfl | simp [*]), H', ⟨Nat.le_refl _⟩, ⟨by (with_reducible repeat (first | apply Kd.V_alloc | apply Kd.V_drewN | apply Kd.V_drew)); exact Kd.V_mono HO_0.out (fun _ hk => ⟨hk.1.1, ⟨hk.2, hk.1.2⟩⟩)⟩, ⟨by (with_reducible repeat (first | apply Kd.V_alloc | apply Kd.V_drewN | apply Kd.V_drew)); exact Kd.V_mono HO477.out (fun _ hk => ⟨hk.1.1, ⟨hk.2, hk.1.2⟩⟩)⟩, ⟨by (with_reducible repeat (first | apply Kd.R_alloc | apply Kd.R_drewN | apply Kd.R_drew)); exact Kd.R_mono HO480.out (fun _ hk => hk.1)⟩, ⟨by (with_reducible repeat (first | apply Kd.V_alloc | apply Kd.V_drewN | apply Kd.V_drew)); exact Kd.V_mono HO_461006.out (fun _ hk => ⟨hk.1.1, ⟨hk.2, hk.1.2⟩⟩)⟩, ⟨bu BK460⟩, ⟨bl HB⟩⟩
     case round =>
      clear H'
      try clear q2
      try clear q3
      try clear q4
      try clear hx4
      try clear q27
      try clear q34
      try clear q35
      try clear hx464_0
      try clear hx464_1
      try clear hx464_2
      try clear hx464_3
      try clear hx464_4
      try clear hx464_5
      try clear hx464_6
      try clear q035
      try clear q27
      try clear q34
      try clear q35
      try clear q4
      try clear q464
      obtain ⟨x14_3, rfl, HA, HK3, HO_0, HO_12, HO_13, HO_461006, BK460, HB⟩ := hrel
      cases gk with
      | zero => exact absurd HA.out (by simp [r_take.l2])
      | succ k3 =>
       have H := HA.out
       clear HA
       simp only [r_take.l2] at H
       by_cases c38 : x14_3 ≥ 0
       ·rw [if_pos c38] at H
        have c38b0 : decide (0 ≤ x14_3) = true := decide_eq_true c38
        clear c38
        by_cases c39 : 0 ≤ x10_6
        rotate_left
        ·rw [if_neg c39] at H
         exact absurd H (by simp)
        rw [if_pos c39] at H
        have c39b0 := eq_true c39
        have c39b1 := decide_eq_true c39
        clear c39
        by_cases c40 : x10_6 ≤ (t461.length : Int)
        rotate_left
        ·rw [if_neg c40] at H
         exact absurd H (by simp)
        rw [if_pos c40] at H
        have c40b0 := eq_true c40
        have c40b1 := decide_eq_true c40
        clear c40
        obtain ⟨y481, hy481⟩ : ∃ y_ : List (S33), y_ = (t461.take (x10_6 : Int).toNat) := ⟨_, rfl⟩
        replace H : (if 0 ≤ x14_3 then (if x14_3 < (t478.length : Int) then ((r_cut.f y481 y473 (rd t478 x14_3) a2_0 a2_1 a2_2 a2_3 a2_4 a2_5 l2_6).bind fun t487 => ((s_Width.f k3 t487).bind fun t490 => (if t490 ≤ a1 then (if 0 ≤ (wrap64 ((wrap64 (x10_6 + (rd t478 x14_3))) + 1)) then (if (wrap64 ((wrap64 (x10_6 + (rd t478 x14_3))) + 1)) ≤ (t461.length : Int) then (some (t487, (t461.drop ((wrap64 ((wrap64 (x10_6 + (rd t478 x14_3))) + 1)) : Int).toNat), true)) else (none)) else (none)) else (r_take.l2 k3 t461 a1 x9_1 x10_6 t466 y473 t478 (wrap64 (x14_3 - 1)) a2_0 a2_1 a2_2 a2_3 a2_4 a2_5 l2_6)))) else (none)) else (none)) = some (r1, r2, r3) := by first | (rw [hy481]; with_reducible exact H) | (have H2_ := (Option.bind_some _ _).symm.trans H; rw [hy481]; with_reducible exact H2_) | (have H2_ := (Option.bind_some _ _).symm.trans H; with_reducible exact H2_) | with_reducible exact H | (rw [hy481]; exact H) | exact H
        have Ny481 := o_ hy481
        clear hy481
        by_cases c41 : 0 ≤ x14_3
        rotate_left
        ·rw [if_neg c41] at H
         exact absurd H (by simp)
        rw [if_pos c41] at H
        have c41b0 := decide_eq_true c41
        clear c41
        by_cases c42 : x14_3 < (t478.length : Int)
        rotate_left
        ·rw [if_neg c42] at H
         exact absurd H (by simp)
        rw [if_pos c42] at H
        have c42b0 := decide_eq_true c42
        clear c42
        obtain ⟨t487, A430, H⟩ := qb H
        try dsimp only at H
        have A43 := o_ A430
        clear A430
        obtain ⟨t490, A440, H⟩ := qb H
        try dsimp only at H
        have A44 := o_ A440
        clear A440
        by_cases c45 : t490 ≤ a1
        rotate_left
        ·rw [if_neg c45] at H
         have c45b0 := decide_eq_false c45
         clear c45
         have H' := o_ H
         clear H
         try go_wp2
         have n0_ := o_ (Kd.V_drew HO_0.out)
         have n1_ := o_ (Kd.V_drew HO_12.out)
         have n2_ := o_ (Kd.R_drew HO_13.out)
         have n3_ := o_ (Kd.V_drew HO_461006.out)
         have n4_ := o_ (blk_drew BK460.out)
         have n5_ := o_ (below_drew1 HB.out)
         clear HO_0
         clear HO_12
         clear HO_13
         clear HO_461006
         clear BK460
         clear HB
         have HO_0 := n0_
         have HO_12 := n1_
         have HO_13 := n2_
         have HO_461006 := n3_
         have BK460 := n4_
         have HB := n5_
         clear n0_ n1_ n2_ n3_ n4_ n5_
         have q56 : (x10_6 : Int) ≤ ((t461.length : Int) : Int) := oa
         obtain ⟨i056, hi056, _, hsz56, _⟩ := info_parts info33
         have hroom56 : t461.length ≤ co32 := (Kd.V_reads' HO_0.out).2.1
         have hC56 : Kd.F k33 _ _ Ao32 t461.length t461 := (Kd.V_at (base := w.heap.size) HO_0.out).2.2
         have hcut56 := cut_to (P := Try.prog) 23 33 .i64 Try.underlying23 hi056 Ao32 t461.length co32 x10_6 (oa) q56 hroom56
         have hr56 := Kd.F_take (m := (x10_6 : Int).toNat) hC56 (by omega)
         have hy56 : y481.length = (x10_6 : Int).toNat := (by rw [Ny481.out, List.length_take]; omega)
         rw [← Ny481.out] at hr56
         rw [← hy56] at hcut56
         have HO485 := o_ (show Kd.V k33 33 _ w.heap.size _ (.slice Ao32 y481.length co32) y481 from Kd.V_mk (by omega) hr56)
         have HC485 := o_ (show y481.length ≤ co32 from by omega)
         clear hr56 hC56 hroom56 hi056 hsz56
         have KY56 := o_ hy56
         clear hy56
         replace q56 := eq_true q56
         have p486 : 0 ≤ (x14_3 : Int) := oa
         have q486 : x14_3 < (t478.length : Int) := oa
         obtain ⟨ad486, e486, hx486_0⟩ := Kd.at_int (Kd.R_reads' HO_13.out).2.2 x14_3 p486 q486
         cases e486
         replace p486 := eq_true p486
         replace q486 := eq_true q486
         refine start_ (n := 11) (S := fun w' => w'.cell? ⟨gb460, 0, none⟩ = some (.int .i64 a2_0) ∧ w'.cell? ⟨gb460, 1, none⟩ = some (.int .i64 a2_1) ∧ w'.cell? ⟨gb460, 2, none⟩ = some (.int .i64 a2_2) ∧ w'.cell? ⟨gb460, 3, none⟩ = some (.int .i64 a2_3) ∧ w'.cell? ⟨gb460, 4, none⟩ = some (.string a2_4) ∧ w'.cell? ⟨gb460, 5, none⟩ = some (.string a2_5) ∧ w'.cell? ⟨gb460, 6, none⟩ = some (.slice A2_6 l2_6.length c2_6) ∧ w'.cell? (ad486.add (x14_3).toNat) = some (.int .i64 (rd t478 x14_3))) (ds := []) #[false, false, false, false, false, false, false, false, false, false, false] (by kernel_rfl) rfl rfl ⟨(blk_cell BK460.out 0).trans rfl, (blk_cell BK460.out 1).trans rfl, (blk_cell BK460.out 2).trans rfl, (blk_cell BK460.out 3).trans rfl, (blk_cell BK460.out 4).trans rfl, (blk_cell BK460.out 5).trans rfl, (blk_cell BK460.out 6).trans rfl, hx486_0⟩ (fun hHeld => ?_); refine with_tabW r_take.tab17 r_take.bits17 (fun HT_ HW_ => ?_)
         generalize wr.drew = w55 at HO_0 HO_12 HO_13 HO_461006 BK460 HB HO485 hx486_0 hHeld ⊢
         refine pu 0 66 HT_ (h := ?_)
         refine pu 1 67 HT_ (h := ?_)
         refine pu 2 68 HT_ (h := ?_)
         refine pu 3 69 HT_ (h := ?_)
         refine pu 4 70 HT_ (h := ?_)
         refine pu 5 71 HT_ (h := ?_)
         refine pu 6 72 HT_ (h := ?_)
         refine tk 7 73 HT_ HW_ hHeld (hy := by rintro w' ⟨s0, s1, s2, s3, s4, s5, s6, s7⟩; go_simp; with_reducible rfl) (h := ?_)
         refine tk 8 74 HT_ HW_ hHeld (hy := by rintro w' ⟨s0, s1, s2, s3, s4, s5, s6, s7⟩; go_simp; with_reducible rfl) (h := ?_)
         refine one_ (i := 9) (N := some 75) #[true, true, true, true, true, true, true, true, true, true, false] rfl rfl (one_of HT_.out (by kernel_rfl)) (by decide) (fun K hK => ?_)
         refine goes_ Try.func81 (by kernel_rfl) rfl #[.slice Ao32 y481.length co32, .slice A35 y473.length c35, .int .i64 (rd t478 x14_3), .agg #[.int .i64 a2_0, .int .i64 a2_1, .int .i64 a2_2, .int .i64 a2_3, .string a2_4, .string a2_5, .slice A2_6 l2_6.length c2_6]] (by rfl) rfl rfl (by (try simp only [List.map_toArray, List.map_cons, List.map_nil]); first | done | rfl | (simp only [List.length_drop, List.length_take]; rfl)) ?_
         with_reducible refine (r_cut.calls (fun k_ => (((P0_ k_ ∨ P2_6_ k_) ∨ w.heap.size ≤ k_) ∧ (some k_ ≠ (.slice (some ad486) t478.length co37 : Value).ownBlock ∧ k_ ≠ gb460))) _ _ y481 (fun k_ => (((P0_ k_ ∨ P2_6_ k_) ∨ w.heap.size ≤ k_) ∧ (some k_ ≠ (.slice (some ad486) t478.length co37 : Value).ownBlock ∧ k_ ≠ gb460))) _ _ y473 (rd t478 x14_3) a2_0 a2_1 a2_2 a2_3 a2_4 a2_5 (fun k_ => (((P0_ k_ ∨ P2_6_ k_) ∨ w.heap.size ≤ k_) ∧ (some k_ ≠ (.slice (some ad486) t478.length co37 : Value).ownBlock ∧ k_ ≠ gb460))) _ _ l2_6 t487 _ ?side1 ?side2 ?side3 A43.out).mono ?_
         (case side1 => exact HO485.out)
         (case side2 => exact HO_12.out)
         (case side3 => exact HO_461006.out)
         rintro e w57 ⟨v488, rfl, ho0, hb⟩
         have HS7_ := (hb.cell (World.block_lt_of_cell? _ _ (hHeld.2.2.2.2.2.2.2))).trans (hHeld.2.2.2.2.2.2.2)
         refine ⟨_, rfl, ?_⟩
         have n0_ := o_ (Kd.V_elder' (Vu HO_0) (Kd.N_base ho0) hb)
         have n1_ := o_ (Kd.V_elder' (Vu HO_12) (Kd.N_base ho0) hb)
         have n2_ := o_ (Kd.R_below (Ru HO_13) hb)
         have n3_ := o_ (Kd.V_elder' (Vu HO_461006) (Kd.N_base ho0) hb)
         have n4_ := o_ (Kd.V_elder' (Vu HO485) (Kd.N_base ho0) hb)
         have n5_ := o_ (Kd.N_lower (Kd.N_mono (ok' := fun k_ => ((P0_ k_ ∨ P2_6_ k_) ∨ w.heap.size ≤ k_) ∧ some k_ ≠ (.slice (some ad486) t478.length co37 : Value).ownBlock ∧ k_ ≠ gb460) ho0 (fun k_ hk_ => ⟨Or.elim hk_ (fun hs_ => Or.elim hs_ (fun hs_ => hs_.1) (fun hs_ => Or.elim hs_ (fun hs_ => hs_.1) (fun hs_ => hs_.1))) (fun hn_ => (.inr (Nat.le_trans (below_size (bl HB)) hn_))), Or.elim hk_ (fun hs_ => Or.elim hs_ (fun hs_ => hs_.2.1) (fun hs_ => Or.elim hs_ (fun hs_ => hs_.2.1) (fun hs_ => hs_.2.1))) (fun hn_ => (Kd.fresh' (Kd.R_lt (Ru HO_13)) k_ hn_)), Or.elim hk_ (fun hs_ => Or.elim hs_ (fun hs_ => hs_.2.2) (fun hs_ => Or.elim hs_ (fun hs_ => hs_.2.2) (fun hs_ => hs_.2.2))) (fun hn_ => (Kd.freshB (g := gb460) (o := .cells #[.int .i64 a2_0, .int .i64 a2_1, .int .i64 a2_2, .int .i64 a2_3, .string a2_4, .string a2_5, .slice A2_6 l2_6.length c2_6] 33 (0, 0)) (bu BK460) k_ hn_))⟩)) (below_size (bl HB)))
         have n6_ := o_ (blk_below (g := gb460) (o := .cells #[.int .i64 a2_0, .int .i64 a2_1, .int .i64 a2_2, .int .i64 a2_3, .string a2_4, .string a2_5, .slice A2_6 l2_6.length c2_6] 33 (0, 0)) (bu BK460) hb)
         have n7_ := o_ (below_step (bl HB) hb)
         clear HO_0
         clear HO_12
         clear HO_13
         clear HO_461006
         clear HO485
         clear BK460
         clear HB
         have HO_0 := n0_
         have HO_12 := n1_
         have HO_13 := n2_
         have HO_461006 := n3_
         have HO485 := n4_
         have HO489 := n5_
         have BK460 := n6_
         have HB := n7_
         clear n0_ n1_ n2_ n3_ n4_ n5_ n6_ n7_
         (try clear hb)
         (try clear hb2)
         (try clear hk)
         (try clear hi)
         (try clear ho0)
         refine hK.out _ _ ⟨(blk_cell BK460.out 0).trans rfl, (blk_cell BK460.out 1).trans rfl, (blk_cell BK460.out 2).trans rfl, (blk_cell BK460.out 3).trans rfl, (blk_cell BK460.out 4).trans rfl, (blk_cell BK460.out 5).trans rfl, (blk_cell BK460.out 6).trans rfl, HS7_⟩ (fun hHeld => ?_)
         clear hK K
         refine norm_ (a' := ?_) ?_ ?_
         rotate_left
         ·show Act.put _ (some 75) _ = _
          simp only [Act.put, List.setIfInBounds_toArray, List.set_cons_zero, List.set_cons_succ, i64_w, i32_w]
          rfl
         refine pu 10 15 HT_ (h := ?_)
         refine done_ (done_of HT_.out (by kernel_rfl)) ?_
         obtain ⟨Ao58, co58, eo58⟩ := Kd.N_slice HO489.out
         subst eo58
         try go_wp2_with (first | ((with_reducible refine gate_callee (f := 13) rfl ?_); refine goesL_ (some 77) rfl rfl Try.func13 (by kernel_rfl) rfl #[.slice Ao58 t487.length co58] rfl (by (try simp only [List.map_toArray, List.map_cons, List.map_nil]); first | done | rfl | (simp only [List.length_drop, List.length_take]; rfl)) ?_; (with_reducible refine (s_Width.calls k3 _ _ t487 t490 _ ?side1 ?side2 A44.out).mono ?_); (case side1 => exact Cu ⟨(Kd.N_reads' HO489.out).2.2⟩); (case side2 => exact (Kd.N_reads' HO489.out).2.1); rintro e w' ⟨rfl, ⟨nd, rfl⟩⟩; refine ⟨_, rfl, ?_⟩))
         go_roundg k3
         case measure => have := HK1.out; have := HJ6.out; have := HK3.out; omega
         case rel => exact ⟨(wrap64 (x14_3 - 1)), (by first | rfl | simp [*]), H', ⟨by have := HK1.out; have := HJ6.out; have := HK3.out; omega⟩, ⟨by (with_reducible repeat (first | apply Kd.V_alloc | apply Kd.V_drewN | apply Kd.V_drew)); exact Kd.V_mono HO_0.out (fun _ hk => ⟨hk.1.1, ⟨hk.1.2.1, hk.1.2.2⟩⟩)⟩, ⟨by (with_reducible repeat (first | apply Kd.V_alloc | apply Kd.V_drewN | apply Kd.V_drew)); exact Kd.V_mono HO_12.out (fun _ hk => ⟨hk.1.1, ⟨hk.1.2.1, hk.1.2.2⟩⟩)⟩, ⟨Ru HO_13⟩, ⟨by (with_reducible repeat (first | apply Kd.V_alloc | apply Kd.V_drewN | apply Kd.V_drew)); exact Kd.V_mono HO_461006.out (fun _ hk => ⟨hk.1.1, ⟨hk.1.2.1, hk.1.2.2⟩⟩)⟩, ⟨bu BK460⟩, ⟨bl HB⟩⟩
        rw [if_pos c45] at H
        have c45b0 := decide_eq_true c45
        clear c45
        obtain ⟨ji46, hji46⟩ : ∃ j_ : Int, (wrap64 ((wrap64 (x10_6 + (rd t478 x14_3))) + 1)) = j_ := ⟨_, rfl⟩
        replace H : (if 0 ≤ (ji46) then (if (ji46) ≤ (t461.length : Int) then (some (t487, (t461.drop ((ji46) : Int).toNat), true)) else (none)) else (none)) = some (r1, r2, r3) := by first | (rw [hji46] at H; exact H) | (simp only [hji46] at H ⊢; exact H)
        (try rw [hji46] at A43)
        (try rw [hji46] at A44)
        have hji46w : (IntKind.i64.wrap ((wrap64 (x10_6 + (rd t478 x14_3))) + 1)) = ji46 := (i64_w _).trans hji46
        by_cases c47 : 0 ≤ (ji46)
        rotate_left
        ·rw [if_neg c47] at H
         exact absurd H (by simp)
        rw [if_pos c47] at H
        have c47b0 := eq_true c47
        have c47b1 := decide_eq_true c47
        clear c47
        by_cases c48 : (ji46) ≤ (t461.length : Int)
        rotate_left
        ·rw [if_neg c48] at H
         exact absurd H (by simp)
        rw [if_pos c48] at H
        have c48b0 := eq_true c48
        have c48b1 := decide_eq_true c48
        clear c48
        obtain ⟨y492, hy492⟩ : ∃ y_ : List (S33), y_ = (t461.drop ((ji46) : Int).toNat) := ⟨_, rfl⟩
        replace H : (some (t487, y492, true)) = some (r1, r2, r3) := by first | (rw [hy492]; with_reducible exact H) | (have H2_ := (Option.bind_some _ _).symm.trans H; rw [hy492]; with_reducible exact H2_) | (have H2_ := (Option.bind_some _ _).symm.trans H; with_reducible exact H2_) | with_reducible exact H | (rw [hy492]; exact H) | exact H
        have Ny492 := o_ hy492
        clear hy492
        simp only [Option.some.injEq, Prod.mk.injEq] at H
        obtain ⟨rfl, rfl, rfl⟩ := H
        try go_wp2
        have n0_ := o_ (Kd.V_drew HO_0.out)
        have n1_ := o_ (Kd.V_drew HO_12.out)
        have n2_ := o_ (Kd.R_drew HO_13.out)
        have n3_ := o_ (Kd.V_drew HO_461006.out)
        have n4_ := o_ (blk_drew BK460.out)
        have n5_ := o_ (below_drew1 HB.out)
        clear HO_0
        clear HO_12
        clear HO_13
        clear HO_461006
        clear BK460
        clear HB
        have HO_0 := n0_
        have HO_12 := n1_
        have HO_13 := n2_
        have HO_461006 := n3_
        have BK460 := n4_
        have HB := n5_
        clear n0_ n1_ n2_ n3_ n4_ n5_
        have q50 : (x10_6 : Int) ≤ ((t461.length : Int) : Int) := oa
        obtain ⟨i050, hi050, _, hsz50, _⟩ := info_parts info33
        have hroom50 : t461.length ≤ co32 := (Kd.V_reads' HO_0.out).2.1
        have hC50 : Kd.F k33 _ _ Ao32 t461.length t461 := (Kd.V_at (base := w.heap.size) HO_0.out).2.2
        have hcut50 := cut_to (P := Try.prog) 23 33 .i64 Try.underlying23 hi050 Ao32 t461.length co32 x10_6 (oa) q50 hroom50
        have hr50 := Kd.F_take (m := (x10_6 : Int).toNat) hC50 (by omega)
        have hy50 : y481.length = (x10_6 : Int).toNat := (by rw [Ny481.out, List.length_take]; omega)
        rw [← Ny481.out] at hr50
        rw [← hy50] at hcut50
        have HO485 := o_ (show Kd.V k33 33 _ w.heap.size _ (.slice Ao32 y481.length co32) y481 from Kd.V_mk (by omega) hr50)
        have HC485 := o_ (show y481.length ≤ co32 from by omega)
        clear hr50 hC50 hroom50 hi050 hsz50
        have KY50 := o_ hy50
        clear hy50
        replace q50 := eq_true q50
        have p486 : 0 ≤ (x14_3 : Int) := oa
        have q486 : x14_3 < (t478.length : Int) := oa
        obtain ⟨ad486, e486, hx486_0⟩ := Kd.at_int (Kd.R_reads' HO_13.out).2.2 x14_3 p486 q486
        cases e486
        replace p486 := eq_true p486
        replace q486 := eq_true q486
        refine start_ (n := 11) (S := fun w' => w'.cell? ⟨gb460, 0, none⟩ = some (.int .i64 a2_0) ∧ w'.cell? ⟨gb460, 1, none⟩ = some (.int .i64 a2_1) ∧ w'.cell? ⟨gb460, 2, none⟩ = some (.int .i64 a2_2) ∧ w'.cell? ⟨gb460, 3, none⟩ = some (.int .i64 a2_3) ∧ w'.cell? ⟨gb460, 4, none⟩ = some (.string a2_4) ∧ w'.cell? ⟨gb460, 5, none⟩ = some (.string a2_5) ∧ w'.cell? ⟨gb460, 6, none⟩ = some (.slice A2_6 l2_6.length c2_6) ∧ w'.cell? (ad486.add (x14_3).toNat) = some (.int .i64 (rd t478 x14_3))) (ds := []) #[false, false, false, false, false, false, false, false, false, false, false] (by kernel_rfl) rfl rfl ⟨(blk_cell BK460.out 0).trans rfl, (blk_cell BK460.out 1).trans rfl, (blk_cell BK460.out 2).trans rfl, (blk_cell BK460.out 3).trans rfl, (blk_cell BK460.out 4).trans rfl, (blk_cell BK460.out 5).trans rfl, (blk_cell BK460.out 6).trans rfl, hx486_0⟩ (fun hHeld => ?_); refine with_tabW r_take.tab17 r_take.bits17 (fun HT_ HW_ => ?_)
        generalize wr.drew = w49 at HO_0 HO_12 HO_13 HO_461006 BK460 HB HO485 hx486_0 hHeld ⊢
        refine pu 0 66 HT_ (h := ?_)
        refine pu 1 67 HT_ (h := ?_)
        refine pu 2 68 HT_ (h := ?_)
        refine pu 3 69 HT_ (h := ?_)
        refine pu 4 70 HT_ (h := ?_)
        refine pu 5 71 HT_ (h := ?_)
        refine pu 6 72 HT_ (h := ?_)
        refine tk 7 73 HT_ HW_ hHeld (hy := by rintro w' ⟨s0, s1, s2, s3, s4, s5, s6, s7⟩; go_simp; with_reducible rfl) (h := ?_)
        refine tk 8 74 HT_ HW_ hHeld (hy := by rintro w' ⟨s0, s1, s2, s3, s4, s5, s6, s7⟩; go_simp; with_reducible rfl) (h := ?_)
        refine one_ (i := 9) (N := some 75) #[true, true, true, true, true, true, true, true, true, true, false] rfl rfl (one_of HT_.out (by kernel_rfl)) (by decide) (fun K hK => ?_)
        refine goes_ Try.func81 (by kernel_rfl) rfl #[.slice Ao32 y481.length co32, .slice A35 y473.length c35, .int .i64 (rd t478 x14_3), .agg #[.int .i64 a2_0, .int .i64 a2_1, .int .i64 a2_2, .int .i64 a2_3, .string a2_4, .string a2_5, .slice A2_6 l2_6.length c2_6]] (by rfl) rfl rfl (by (try simp only [List.map_toArray, List.map_cons, List.map_nil]); first | done | rfl | (simp only [List.length_drop, List.length_take]; rfl)) ?_
        with_reducible refine (r_cut.calls (fun k_ => (((P0_ k_ ∨ P2_6_ k_) ∨ w.heap.size ≤ k_) ∧ (some k_ ≠ (.slice (some ad486) t478.length co37 : Value).ownBlock ∧ k_ ≠ gb460))) _ _ y481 (fun k_ => (((P0_ k_ ∨ P2_6_ k_) ∨ w.heap.size ≤ k_) ∧ (some k_ ≠ (.slice (some ad486) t478.length co37 : Value).ownBlock ∧ k_ ≠ gb460))) _ _ y473 (rd t478 x14_3) a2_0 a2_1 a2_2 a2_3 a2_4 a2_5 (fun k_ => (((P0_ k_ ∨ P2_6_ k_) ∨ w.heap.size ≤ k_) ∧ (some k_ ≠ (.slice (some ad486) t478.length co37 : Value).ownBlock ∧ k_ ≠ gb460))) _ _ l2_6 t487 _ ?side1 ?side2 ?side3 A43.out).mono ?_
        (case side1 => exact HO485.out)
        (case side2 => exact HO_12.out)
        (case side3 => exact HO_461006.out)
        rintro e w51 ⟨v488, rfl, ho0, hb⟩
        have HS7_ := (hb.cell (World.block_lt_of_cell? _ _ (hHeld.2.2.2.2.2.2.2))).trans (hHeld.2.2.2.2.2.2.2)
        refine ⟨_, rfl, ?_⟩
        have n0_ := o_ (Kd.V_elder' (Vu HO_0) (Kd.N_base ho0) hb)
        have n1_ := o_ (Kd.V_elder' (Vu HO_12) (Kd.N_base ho0) hb)
        have n2_ := o_ (Kd.R_below (Ru HO_13) hb)
        have n3_ := o_ (Kd.V_elder' (Vu HO_461006) (Kd.N_base ho0) hb)
        have n4_ := o_ (Kd.V_elder' (Vu HO485) (Kd.N_base ho0) hb)
        have n5_ := o_ (Kd.N_lower (Kd.N_mono (ok' := fun k_ => ((P0_ k_ ∨ P2_6_ k_) ∨ w.heap.size ≤ k_) ∧ some k_ ≠ (.slice (some ad486) t478.length co37 : Value).ownBlock ∧ k_ ≠ gb460) ho0 (fun k_ hk_ => ⟨Or.elim hk_ (fun hs_ => Or.elim hs_ (fun hs_ => hs_.1) (fun hs_ => Or.elim hs_ (fun hs_ => hs_.1) (fun hs_ => hs_.1))) (fun hn_ => (.inr (Nat.le_trans (below_size (bl HB)) hn_))), Or.elim hk_ (fun hs_ => Or.elim hs_ (fun hs_ => hs_.2.1) (fun hs_ => Or.elim hs_ (fun hs_ => hs_.2.1) (fun hs_ => hs_.2.1))) (fun hn_ => (Kd.fresh' (Kd.R_lt (Ru HO_13)) k_ hn_)), Or.elim hk_ (fun hs_ => Or.elim hs_ (fun hs_ => hs_.2.2) (fun hs_ => Or.elim hs_ (fun hs_ => hs_.2.2) (fun hs_ => hs_.2.2))) (fun hn_ => (Kd.freshB (g := gb460) (o := .cells #[.int .i64 a2_0, .int .i64 a2_1, .int .i64 a2_2, .int .i64 a2_3, .string a2_4, .string a2_5, .slice A2_6 l2_6.length c2_6] 33 (0, 0)) (bu BK460) k_ hn_))⟩)) (below_size (bl HB)))
        have n6_ := o_ (blk_below (g := gb460) (o := .cells #[.int .i64 a2_0, .int .i64 a2_1, .int .i64 a2_2, .int .i64 a2_3, .string a2_4, .string a2_5, .slice A2_6 l2_6.length c2_6] 33 (0, 0)) (bu BK460) hb)
        have n7_ := o_ (below_step (bl HB) hb)
        clear HO_0
        clear HO_12
        clear HO_13
        clear HO_461006
        clear HO485
        clear BK460
        clear HB
        have HO_0 := n0_
        have HO_12 := n1_
        have HO_13 := n2_
        have HO_461006 := n3_
        have HO485 := n4_
        have HO489 := n5_
        have BK460 := n6_
        have HB := n7_
        clear n0_ n1_ n2_ n3_ n4_ n5_ n6_ n7_
        (try clear hb)
        (try clear hb2)
        (try clear hk)
        (try clear hi)
        (try clear ho0)
        refine hK.out _ _ ⟨(blk_cell BK460.out 0).trans rfl, (blk_cell BK460.out 1).trans rfl, (blk_cell BK460.out 2).trans rfl, (blk_cell BK460.out 3).trans rfl, (blk_cell BK460.out 4).trans rfl, (blk_cell BK460.out 5).trans rfl, (blk_cell BK460.out 6).trans rfl, HS7_⟩ (fun hHeld => ?_)
        clear hK K
        refine norm_ (a' := ?_) ?_ ?_
        rotate_left
        ·show Act.put _ (some 75) _ = _
         simp only [Act.put, List.setIfInBounds_toArray, List.set_cons_zero, List.set_cons_succ, i64_w, i32_w]
         rfl
        refine pu 10 15 HT_ (h := ?_)
        refine done_ (done_of HT_.out (by kernel_rfl)) ?_
        obtain ⟨Ao52, co52, eo52⟩ := Kd.N_slice HO489.out
        subst eo52
        try go_wp2_with (first | ((with_reducible refine gate_callee (f := 13) rfl ?_); refine goesL_ (some 77) rfl rfl Try.func13 (by kernel_rfl) rfl #[.slice Ao52 t487.length co52] rfl (by (try simp only [List.map_toArray, List.map_cons, List.map_nil]); first | done | rfl | (simp only [List.length_drop, List.length_take]; rfl)) ?_; (with_reducible refine (s_Width.calls k3 _ _ t487 t490 _ ?side1 ?side2 A44.out).mono ?_); (case side1 => exact Cu ⟨(Kd.N_reads' HO489.out).2.2⟩); (case side2 => exact (Kd.N_reads' HO489.out).2.1); rintro e w' ⟨rfl, ⟨nd, rfl⟩⟩; refine ⟨_, rfl, ?_⟩))
        (try (rw [drewN_self w51]; generalize hq_ : World.drewN w51 _ = w51; have n0_ : As (Kd.V k33 33 w51 w.heap.size (fun k_ => ((P0_ k_ ∨ P2_6_ k_) ∨ w.heap.size ≤ k_) ∧ some k_ ≠ (.slice Ao52 t487.length co52 : Value).ownBlock ∧ some k_ ≠ (.slice (some ad486) t478.length co37 : Value).ownBlock ∧ k_ ≠ gb460) (.slice Ao32 y481.length co32) y481) := ⟨by rw [← hq_]; exact (by (with_reducible repeat (first | apply Kd.V_alloc | apply Kd.V_drewN | apply Kd.V_drew)); exact Kd.V_mono HO485.out (fun _ hk => ⟨hk.1.1, ⟨hk.2, ⟨hk.1.2.1, hk.1.2.2⟩⟩⟩))⟩; have n1_ : As (Kd.N k33 33 w51 w.heap.size (fun k_ => ((P0_ k_ ∨ P2_6_ k_) ∨ w.heap.size ≤ k_) ∧ some k_ ≠ (.slice (some ad486) t478.length co37 : Value).ownBlock ∧ k_ ≠ gb460) (.slice Ao52 t487.length co52) t487) := ⟨by rw [← hq_]; exact (Nu HO489)⟩; have n2_ : As (Kd.V k33 33 w51 w.heap.size (fun k_ => ((P0_ k_ ∨ P2_6_ k_) ∨ w.heap.size ≤ k_) ∧ some k_ ≠ (.slice Ao52 t487.length co52 : Value).ownBlock ∧ some k_ ≠ (.slice (some ad486) t478.length co37 : Value).ownBlock ∧ k_ ≠ gb460) (.slice Ao32 t461.length co32) t461) := ⟨by rw [← hq_]; exact (by (with_reducible repeat (first | apply Kd.V_alloc | apply Kd.V_drewN | apply Kd.V_drew)); exact Kd.V_mono HO_0.out (fun _ hk => ⟨hk.1.1, ⟨hk.2, ⟨hk.1.2.1, hk.1.2.2⟩⟩⟩))⟩; have n3_ : As (Kd.V k33 33 w51 w.heap.size (fun k_ => ((P0_ k_ ∨ P2_6_ k_) ∨ w.heap.size ≤ k_) ∧ some k_ ≠ (.slice Ao52 t487.length co52 : Value).ownBlock ∧ some k_ ≠ (.slice (some ad486) t478.length co37 : Value).ownBlock ∧ k_ ≠ gb460) (.slice A35 y473.length c35) y473) := ⟨by rw [← hq_]; exact (by (with_reducible repeat (first | apply Kd.V_alloc | apply Kd.V_drewN | apply Kd.V_drew)); exact Kd.V_mono HO_12.out (fun _ hk => ⟨hk.1.1, ⟨hk.2, ⟨hk.1.2.1, hk.1.2.2⟩⟩⟩))⟩; have n4_ : As (Kd.R (Kd.int .i64) 3 w51 w.heap.size (fun k_ => (w.heap.size ≤ k_)) (.slice (some ad486) t478.length co37) t478) := ⟨by rw [← hq_]; exact (Ru HO_13)⟩; have n5_ : As (Kd.V (Kd.int .i64) 3 w51 w.heap.size (fun k_ => ((P0_ k_ ∨ P2_6_ k_) ∨ w.heap.size ≤ k_) ∧ some k_ ≠ (.slice Ao52 t487.length co52 : Value).ownBlock ∧ some k_ ≠ (.slice (some ad486) t478.length co37 : Value).ownBlock ∧ k_ ≠ gb460) (.slice A2_6 l2_6.length c2_6) l2_6) := ⟨by rw [← hq_]; exact (by (with_reducible repeat (first | apply Kd.V_alloc | apply Kd.V_drewN | apply Kd.V_drew)); exact Kd.V_mono HO_461006.out (fun _ hk => ⟨hk.1.1, ⟨hk.2, ⟨hk.1.2.1, hk.1.2.2⟩⟩⟩))⟩; have n6_ : As (w51.heap[gb460]? = some (.cells #[.int .i64 a2_0, .int .i64 a2_1, .int .i64 a2_2, .int .i64 a2_3, .string a2_4, .string a2_5, .slice A2_6 l2_6.length c2_6] 33 (0, 0))) := ⟨by rw [← hq_]; exact (bu BK460)⟩; have n7_ : As (Below w.heap.size w w51) := ⟨by rw [← hq_]; exact (bl HB)⟩; clear HO485 HO489 HO_0 HO_12 HO_13 HO_461006 BK460 HB hq_; have HO485 := n0_; have HO489 := n1_; have HO_0 := n2_; have HO_12 := n3_; have HO_13 := n4_; have HO_461006 := n5_; have BK460 := n6_; have HB := n7_; clear n0_ n1_ n2_ n3_ n4_ n5_ n6_ n7_))
        have n0_ := o_ (Kd.V_drew HO_0.out)
        have n1_ := o_ (Kd.V_drew HO_12.out)
        have n2_ := o_ (Kd.R_drew HO_13.out)
        have n3_ := o_ (Kd.V_drew HO_461006.out)
        have n4_ := o_ (Kd.V_drew HO485.out)
        have n5_ := o_ (Kd.N_drew HO489.out)
        have n6_ := o_ (blk_drew BK460.out)
        have n7_ := o_ (below_drew1 HB.out)
        clear HO_0
        clear HO_12
        clear HO_13
        clear HO_461006
        clear HO485
        clear HO489
        clear BK460
        clear HB
        have HO_0 := n0_
        have HO_12 := n1_
        have HO_13 := n2_
        have HO_461006 := n3_
        have HO485 := n4_
        have HO489 := n5_
        have BK460 := n6_
        have HB := n7_
        clear n0_ n1_ n2_ n3_ n4_ n5_ n6_ n7_
        have p491 : 0 ≤ (x14_3 : Int) := oa
        have q491 : x14_3 < (t478.length : Int) := oa
        obtain ⟨ad491, e491, hx491_0⟩ := Kd.at_int (Kd.R_reads' HO_13.out).2.2 x14_3 p491 q491
        obtain rfl : ad486 = ad491 := (by injection e491)
        replace p491 := eq_true p491
        replace q491 := eq_true q491
        have q54 : ((ji46) : Int) ≤ ((t461.length : Int) : Int) := oa
        obtain ⟨i054, hi054, _, hsz54, _⟩ := info_parts info33
        have hroom54 : t461.length ≤ co32 := (Kd.V_reads' HO_0.out).2.1
        have hC54 : Kd.F k33 _ _ Ao32 t461.length t461 := (Kd.V_at (base := w.heap.size) HO_0.out).2.2
        have q054 : (0 : Int) ≤ ((ji46) : Int) := oa
        have hcut54 := cut_from (P := Try.prog) 23 33 .i64 Try.underlying23 hi054 7 hsz54 Ao32 t461.length co32 (ji46) q054 q54
        have hr54 := Kd.F_cut (m := ((ji46) : Int).toNat) (c := co32) hC54 (by omega) hroom54
        obtain ⟨A54, hA54⟩ : ∃ A1, A1 = (if co32 = ((ji46) : Int).toNat then Ao32 else (Ao32 : Option Addr).map (·.add (((ji46) : Int).toNat * 7))) := ⟨_, rfl⟩
        obtain ⟨c54, hc54⟩ : ∃ c1, c1 = co32 - ((ji46) : Int).toNat := ⟨_, rfl⟩
        have hy54 : y492.length = t461.length - ((ji46) : Int).toNat := (by rw [Ny492.out, List.length_drop] <;> omega)
        rw [show (t461).drop ((ji46) : Int).toNat = y492 from Ny492.out.symm] at hr54
        replace hr54 : Kd.F k33 _ _ A54 y492.length y492 := (by rw [hA54]; exact hr54)
        rw [← hy54, ← hA54, ← hc54] at hcut54
        have HO496 := o_ (show Kd.V k33 33 _ w.heap.size _ (.slice A54 y492.length c54) y492 from Kd.V_mk (by rw [hy54, hc54]; exact Nat.sub_le_sub_right hroom54 _) hr54)
        have HC496 := o_ (show y492.length ≤ c54 from by rw [hy54, hc54]; exact Nat.sub_le_sub_right hroom54 _)
        clear hr54 hC54 hroom54 hi054 hsz54 hc54
        have KY54 := o_ hy54
        have KA54 := o_ hA54
        clear hy54 hA54
        replace q54 := eq_true q54
        refine start_ (n := 13) (S := fun w' => w'.cell? (ad486.add (x14_3).toNat) = some (.int .i64 (rd t478 x14_3))) (ds := []) #[false, false, false, false, false, false, false, false, false, false, false, false, false] (by kernel_rfl) rfl rfl (hx491_0) (fun hHeld => ?_); refine with_tabW r_take.tab19 r_take.bits19 (fun HT_ HW_ => ?_)
        generalize w51.drew = w53 at HO_0 HO_12 HO_13 HO_461006 HO485 HO489 BK460 HB HO496 hx491_0 hHeld ⊢
        refine pu 0 80 HT_ (h := ?_)
        refine pu 1 81 HT_ (h := ?_)
        refine pu 2 82 HT_ (h := ?_)
        refine pu 3 83 HT_ (h := ?_)
        refine pu 4 84 HT_ (h := ?_)
        refine pu 5 85 HT_ (h := ?_)
        refine pu 10 6 HT_ (h := ?_)
        refine tk 6 86 HT_ HW_ hHeld (hy := by intro w' s0; go_simp; with_reducible rfl) (h := ?_)
        refine pu 7 87 HT_ (h := ?_)
        refine pu 8 88 HT_ (h := ?_)
        refine pu 9 89 HT_ (h := ?_)
        refine pu 11 7 HT_ (h := ?_)
        refine pu 12 8 HT_ (h := ?_)
        refine done_ (done_of HT_.out (by kernel_rfl)) ?_
        try go_wp2
        go_ret3
        exact ⟨_, _, by first | rfl | (simp [errW_none, errW_some] <;> rfl) | (simp only [← hji20, ← hji46]; first | rfl | (simp [errW_none, errW_some] <;> rfl)) | (simp [*, errW_none, errW_some] <;> rfl), Kd.N_V (by (with_reducible repeat (first | apply Kd.N_alloc | apply Kd.N_drewN | apply Kd.N_drew)); exact Kd.N_mono HO489.out (fun _ hk => hk.1)), by (with_reducible repeat (first | apply Kd.V_alloc | apply Kd.V_drewN | apply Kd.V_drew)); exact Kd.V_mono HO496.out (fun _ hk => by first | exact hk.1.1 | exact hk.1), bl HB⟩
       rw [if_neg c38] at H
       have c38b0 : decide (0 ≤ x14_3) = false := decide_eq_false c38
       clear c38
       by_cases c59 : x9_1 > 0
       ·rw [if_pos c59] at H
        have c59b0 : decide (0 < x9_1) = true := decide_eq_true c59
        clear c59
        by_cases c60 : 0 ≤ x9_1
        rotate_left
        ·rw [if_neg c60] at H
         exact absurd H (by simp)
        rw [if_pos c60] at H
        have c60b0 := eq_true c60
        have c60b1 := decide_eq_true c60
        clear c60
        by_cases c61 : x9_1 ≤ (t461.length : Int)
        rotate_left
        ·rw [if_neg c61] at H
         exact absurd H (by simp)
        rw [if_pos c61] at H
        have c61b0 := eq_true c61
        have c61b1 := decide_eq_true c61
        clear c61
        obtain ⟨y497, hy497⟩ : ∃ y_ : List (S33), y_ = (t461.take (x9_1 : Int).toNat) := ⟨_, rfl⟩
        replace H : (if 0 ≤ x10_6 then (if x10_6 ≤ (t461.length : Int) then (some (y497, (t461.drop (x10_6 : Int).toNat), true)) else (none)) else (none)) = some (r1, r2, r3) := by first | (rw [hy497]; with_reducible exact H) | (have H2_ := (Option.bind_some _ _).symm.trans H; rw [hy497]; with_reducible exact H2_) | (have H2_ := (Option.bind_some _ _).symm.trans H; with_reducible exact H2_) | with_reducible exact H | (rw [hy497]; exact H) | exact H
        have Ny497 := o_ hy497
        clear hy497
        by_cases c62 : 0 ≤ x10_6
        rotate_left
        ·rw [if_neg c62] at H
         exact absurd H (by simp)
        rw [if_pos c62] at H
        have c62b0 := eq_true c62
        have c62b1 := decide_eq_true c62
        clear c62
        by_cases c63 : x10_6 ≤ (t461.length : Int)
        rotate_left
        ·rw [if_neg c63] at H
         exact absurd H (by simp)
        rw [if_pos c63] at H
        have c63b0 := eq_true c63
        have c63b1 := decide_eq_true c63
        clear c63
        obtain ⟨y502, hy502⟩ : ∃ y_ : List (S33), y_ = (t461.drop (x10_6 : Int).toNat) := ⟨_, rfl⟩
        replace H : (some (y497, y502, true)) = some (r1, r2, r3) := by first | (rw [hy502]; with_reducible exact H) | (have H2_ := (Option.bind_some _ _).symm.trans H; rw [hy502]; with_reducible exact H2_) | (have H2_ := (Option.bind_some _ _).symm.trans H; with_reducible exact H2_) | with_reducible exact H | (rw [hy502]; exact H) | exact H
        have Ny502 := o_ hy502
        clear hy502
        simp only [Option.some.injEq, Prod.mk.injEq] at H
        obtain ⟨rfl, rfl, rfl⟩ := H
        try go_wp2
        have n0_ := o_ (Kd.V_drew HO_0.out)
        have n1_ := o_ (Kd.V_drew HO_12.out)
        have n2_ := o_ (Kd.R_drew HO_13.out)
        have n3_ := o_ (Kd.V_drew HO_461006.out)
        have n4_ := o_ (blk_drew BK460.out)
        have n5_ := o_ (below_drew1 HB.out)
        clear HO_0
        clear HO_12
        clear HO_13
        clear HO_461006
        clear BK460
        clear HB
        have HO_0 := n0_
        have HO_12 := n1_
        have HO_13 := n2_
        have HO_461006 := n3_
        have BK460 := n4_
        have HB := n5_
        clear n0_ n1_ n2_ n3_ n4_ n5_
        have q65 : (x9_1 : Int) ≤ ((t461.length : Int) : Int) := oa
        obtain ⟨i065, hi065, _, hsz65, _⟩ := info_parts info33
        have hroom65 : t461.length ≤ co32 := (Kd.V_reads' HO_0.out).2.1
        have hC65 : Kd.F k33 _ _ Ao32 t461.length t461 := (Kd.V_at (base := w.heap.size) HO_0.out).2.2
        have hcut65 := cut_to (P := Try.prog) 23 33 .i64 Try.underlying23 hi065 Ao32 t461.length co32 x9_1 (oa) q65 hroom65
        have hr65 := Kd.F_take (m := (x9_1 : Int).toNat) hC65 (by omega)
        have hy65 : y497.length = (x9_1 : Int).toNat := (by rw [Ny497.out, List.length_take]; omega)
        rw [← Ny497.out] at hr65
        rw [← hy65] at hcut65
        have HO501 := o_ (show Kd.V k33 33 _ w.heap.size _ (.slice Ao32 y497.length co32) y497 from Kd.V_mk (by omega) hr65)
        have HC501 := o_ (show y497.length ≤ co32 from by omega)
        clear hr65 hC65 hroom65 hi065 hsz65
        have KY65 := o_ hy65
        clear hy65
        replace q65 := eq_true q65
        have q66 : (x10_6 : Int) ≤ ((t461.length : Int) : Int) := oa
        obtain ⟨i066, hi066, _, hsz66, _⟩ := info_parts info33
        have hroom66 : t461.length ≤ co32 := (Kd.V_reads' HO_0.out).2.1
        have hC66 : Kd.F k33 _ _ Ao32 t461.length t461 := (Kd.V_at (base := w.heap.size) HO_0.out).2.2
        have q066 : (0 : Int) ≤ (x10_6 : Int) := oa
        have hcut66 := cut_from (P := Try.prog) 23 33 .i64 Try.underlying23 hi066 7 hsz66 Ao32 t461.length co32 x10_6 q066 q66
        have hr66 := Kd.F_cut (m := (x10_6 : Int).toNat) (c := co32) hC66 (by omega) hroom66
        obtain ⟨A66, hA66⟩ : ∃ A1, A1 = (if co32 = (x10_6 : Int).toNat then Ao32 else (Ao32 : Option Addr).map (·.add ((x10_6 : Int).toNat * 7))) := ⟨_, rfl⟩
        obtain ⟨c66, hc66⟩ : ∃ c1, c1 = co32 - (x10_6 : Int).toNat := ⟨_, rfl⟩
        have hy66 : y502.length = t461.length - (x10_6 : Int).toNat := (by rw [Ny502.out, List.length_drop] <;> omega)
        rw [show (t461).drop (x10_6 : Int).toNat = y502 from Ny502.out.symm] at hr66
        replace hr66 : Kd.F k33 _ _ A66 y502.length y502 := (by rw [hA66]; exact hr66)
        rw [← hy66, ← hA66, ← hc66] at hcut66
        have HO506 := o_ (show Kd.V k33 33 _ w.heap.size _ (.slice A66 y502.length c66) y502 from Kd.V_mk (by rw [hy66, hc66]; exact Nat.sub_le_sub_right hroom66 _) hr66)
        have HC506 := o_ (show y502.length ≤ c66 from by rw [hy66, hc66]; exact Nat.sub_le_sub_right hroom66 _)
        clear hr66 hC66 hroom66 hi066 hsz66 hc66
        have KY66 := o_ hy66
        have KA66 := o_ hA66
        clear hy66 hA66
        replace q66 := eq_true q66
        refine start_ (n := 9) (S := fun w' => True) (ds := []) #[false, false, false, false, false, false, false, false, false] (by kernel_rfl) rfl rfl trivial (fun hHeld => ?_); refine with_tabW r_take.tab21 r_take.bits21 (fun HT_ HW_ => ?_)
        generalize wr.drew = w64 at HO_0 HO_12 HO_13 HO_461006 BK460 HB HO501 HO506 hHeld ⊢
        refine pu 0 93 HT_ (h := ?_)
        refine pu 1 94 HT_ (h := ?_)
        refine pu 2 95 HT_ (h := ?_)
        refine pu 3 96 HT_ (h := ?_)
        refine pu 4 97 HT_ (h := ?_)
        refine pu 5 98 HT_ (h := ?_)
        refine pu 6 6 HT_ (h := ?_)
        refine pu 7 7 HT_ (h := ?_)
        refine pu 8 8 HT_ (h := ?_)
        refine done_ (done_of HT_.out (by kernel_rfl)) ?_
        try go_wp2
        go_ret3
        exact ⟨_, _, by first | rfl | (simp [errW_none, errW_some] <;> rfl) | (simp only [← hji20]; first | rfl | (simp [errW_none, errW_some] <;> rfl)) | (simp [*, errW_none, errW_some] <;> rfl), by (with_reducible repeat (first | apply Kd.V_alloc | apply Kd.V_drewN | apply Kd.V_drew)); exact Kd.V_mono HO501.out (fun _ hk => hk.1), by (with_reducible repeat (first | apply Kd.V_alloc | apply Kd.V_drewN | apply Kd.V_drew)); exact Kd.V_mono HO506.out (fun _ hk => hk.1), bl HB⟩
       rw [if_neg c59] at H
       have c59b0 : decide (0 < x9_1) = false := decide_eq_false c59
       clear c59
       by_cases c67 : (t478.length : Int) > 0
       rotate_left
       ·rw [if_neg c67] at H
        have c67b0 : decide (0 < (t478.length : Int)) = false := decide_eq_false c67
        have c67b1 : decide (0 < t478.length) = false := decide_eq_false (by omega)
        clear c67
        by_cases c76 : 0 ≤ t466
        rotate_left
        ·rw [if_neg c76] at H
         exact absurd H (by simp)
        rw [if_pos c76] at H
        have c76b0 := eq_true c76
        have c76b1 := decide_eq_true c76
        clear c76
        by_cases c77 : t466 ≤ (t461.length : Int)
        rotate_left
        ·rw [if_neg c77] at H
         exact absurd H (by simp)
        rw [if_pos c77] at H
        have c77b0 := eq_true c77
        have c77b1 := decide_eq_true c77
        clear c77
        obtain ⟨y517, hy517⟩ : ∃ y_ : List (S33), y_ = (t461.take (t466 : Int).toNat) := ⟨_, rfl⟩
        replace H : ((r_front.f k3 (t461.drop (t466 : Int).toNat)).bind fun t527 => (some (y517, t527, true))) = some (r1, r2, r3) := by first | (rw [hy517]; with_reducible exact H) | (have H2_ := (Option.bind_some _ _).symm.trans H; rw [hy517]; with_reducible exact H2_) | (have H2_ := (Option.bind_some _ _).symm.trans H; with_reducible exact H2_) | with_reducible exact H | (rw [hy517]; exact H) | exact H
        have Ny517 := o_ hy517
        clear hy517
        have c78b0 := eq_true (oa : 0 ≤ t466)
        have c79b0 := eq_true (oa : t466 ≤ (t461.length : Int))
        obtain ⟨y522, hy522⟩ : ∃ y_ : List (S33), y_ = (t461.drop (t466 : Int).toNat) := ⟨_, rfl⟩
        replace H : ((r_front.f k3 y522).bind fun t527 => (some (y517, t527, true))) = some (r1, r2, r3) := by first | (rw [hy522]; with_reducible exact H) | (have H2_ := (Option.bind_some _ _).symm.trans H; rw [hy522]; with_reducible exact H2_) | (have H2_ := (Option.bind_some _ _).symm.trans H; with_reducible exact H2_) | with_reducible exact H | (rw [hy522]; exact H) | exact H
        have Ny522 := o_ hy522
        clear hy522
        obtain ⟨t527, A800, H⟩ := qb H
        try dsimp only at H
        have A80 := o_ A800
        clear A800
        simp only [Option.some.injEq, Prod.mk.injEq] at H
        obtain ⟨rfl, rfl, rfl⟩ := H
        try go_wp2
        have n0_ := o_ (Kd.V_drew HO_0.out)
        have n1_ := o_ (Kd.V_drew HO_12.out)
        have n2_ := o_ (Kd.R_drew HO_13.out)
        have n3_ := o_ (Kd.V_drew HO_461006.out)
        have n4_ := o_ (blk_drew BK460.out)
        have n5_ := o_ (below_drew1 HB.out)
        clear HO_0
        clear HO_12
        clear HO_13
        clear HO_461006
        clear BK460
        clear HB
        have HO_0 := n0_
        have HO_12 := n1_
        have HO_13 := n2_
        have HO_461006 := n3_
        have BK460 := n4_
        have HB := n5_
        clear n0_ n1_ n2_ n3_ n4_ n5_
        have q82 : (t466 : Int) ≤ ((t461.length : Int) : Int) := oa
        obtain ⟨i082, hi082, _, hsz82, _⟩ := info_parts info33
        have hroom82 : t461.length ≤ co32 := (Kd.V_reads' HO_0.out).2.1
        have hC82 : Kd.F k33 _ _ Ao32 t461.length t461 := (Kd.V_at (base := w.heap.size) HO_0.out).2.2
        have hcut82 := cut_to (P := Try.prog) 23 33 .i64 Try.underlying23 hi082 Ao32 t461.length co32 t466 (oa) q82 hroom82
        have hr82 := Kd.F_take (m := (t466 : Int).toNat) hC82 (by omega)
        have hy82 : y517.length = (t466 : Int).toNat := (by rw [Ny517.out, List.length_take]; omega)
        rw [← Ny517.out] at hr82
        rw [← hy82] at hcut82
        have HO521 := o_ (show Kd.V k33 33 _ w.heap.size _ (.slice Ao32 y517.length co32) y517 from Kd.V_mk (by omega) hr82)
        have HC521 := o_ (show y517.length ≤ co32 from by omega)
        clear hr82 hC82 hroom82 hi082 hsz82
        have KY82 := o_ hy82
        clear hy82
        replace q82 := eq_true q82
        have q83 : (t466 : Int) ≤ ((t461.length : Int) : Int) := oa
        obtain ⟨i083, hi083, _, hsz83, _⟩ := info_parts info33
        have hroom83 : t461.length ≤ co32 := (Kd.V_reads' HO_0.out).2.1
        have hC83 : Kd.F k33 _ _ Ao32 t461.length t461 := (Kd.V_at (base := w.heap.size) HO_0.out).2.2
        have q083 : (0 : Int) ≤ (t466 : Int) := oa
        have hcut83 := cut_from (P := Try.prog) 23 33 .i64 Try.underlying23 hi083 7 hsz83 Ao32 t461.length co32 t466 q083 q83
        have hr83 := Kd.F_cut (m := (t466 : Int).toNat) (c := co32) hC83 (by omega) hroom83
        obtain ⟨A83, hA83⟩ : ∃ A1, A1 = (if co32 = (t466 : Int).toNat then Ao32 else (Ao32 : Option Addr).map (·.add ((t466 : Int).toNat * 7))) := ⟨_, rfl⟩
        obtain ⟨c83, hc83⟩ : ∃ c1, c1 = co32 - (t466 : Int).toNat := ⟨_, rfl⟩
        have hy83 : y522.length = t461.length - (t466 : Int).toNat := (by rw [Ny522.out, List.length_drop] <;> omega)
        rw [show (t461).drop (t466 : Int).toNat = y522 from Ny522.out.symm] at hr83
        replace hr83 : Kd.F k33 _ _ A83 y522.length y522 := (by rw [hA83]; exact hr83)
        rw [← hy83, ← hA83, ← hc83] at hcut83
        have HO526 := o_ (show Kd.V k33 33 _ w.heap.size _ (.slice A83 y522.length c83) y522 from Kd.V_mk (by rw [hy83, hc83]; exact Nat.sub_le_sub_right hroom83 _) hr83)
        have HC526 := o_ (show y522.length ≤ c83 from by rw [hy83, hc83]; exact Nat.sub_le_sub_right hroom83 _)
        clear hr83 hC83 hroom83 hi083 hsz83 hc83
        have KY83 := o_ hy83
        have KA83 := o_ hA83
        clear hy83 hA83
        replace q83 := eq_true q83
        refine start_ (n := 10) (S := fun w' => True) (ds := []) #[false, false, false, false, false, false, false, false, false, false] (by kernel_rfl) rfl rfl trivial (fun hHeld => ?_); refine with_tabW r_take.tab24 r_take.bits24 (fun HT_ HW_ => ?_)
        generalize wr.drew = w81 at HO_0 HO_12 HO_13 HO_461006 BK460 HB HO521 HO526 hHeld ⊢
        refine pu 0 115 HT_ (h := ?_)
        refine pu 1 116 HT_ (h := ?_)
        refine pu 2 117 HT_ (h := ?_)
        refine pu 3 118 HT_ (h := ?_)
        refine pu 4 119 HT_ (h := ?_)
        refine pu 5 120 HT_ (h := ?_)
        refine one_ (i := 6) (N := some 121) #[true, true, true, true, true, true, true, false, false, false] rfl rfl (one_of HT_.out (by kernel_rfl)) (by decide) (fun K hK => ?_)
        refine goes_ Try.func70 (by kernel_rfl) rfl #[.slice A83 y522.length c83] (by rfl) rfl rfl (by (try simp only [List.map_toArray, List.map_cons, List.map_nil]); first | done | rfl | (simp only [List.length_drop, List.length_take]; rfl)) ?_
        with_reducible refine (r_front.calls k3 (fun k_ => (((P0_ k_ ∨ P2_6_ k_) ∨ w.heap.size ≤ k_) ∧ (some k_ ≠ (.slice Ao37 t478.length co37 : Value).ownBlock ∧ k_ ≠ gb460))) _ _ y522 t527 _ ?side1 A80.out).mono ?_
        (case side1 => exact HO526.out)
        rintro e w84 ⟨v528, rfl, ho0, hb⟩
        refine ⟨_, rfl, ?_⟩
        have n0_ := o_ (Kd.V_below (Vu HO_0) hb)
        have n1_ := o_ (Kd.V_below (Vu HO_12) hb)
        have n2_ := o_ (Kd.R_below (Ru HO_13) hb)
        have n3_ := o_ (Kd.V_below (Vu HO_461006) hb)
        have n4_ := o_ (Kd.V_below (Vu HO521) hb)
        have n5_ := o_ (Kd.V_below (Vu HO526) hb)
        have n6_ := o_ (Kd.V_lower (Kd.V_mono (ok' := fun k_ => ((P0_ k_ ∨ P2_6_ k_) ∨ w.heap.size ≤ k_) ∧ some k_ ≠ (.slice Ao37 t478.length co37 : Value).ownBlock ∧ k_ ≠ gb460) ho0 (fun k_ hk_ => ⟨Or.elim hk_ (fun hs_ => hs_.1) (fun hn_ => (.inr (Nat.le_trans (below_size (bl HB)) hn_))), Or.elim hk_ (fun hs_ => hs_.2.1) (fun hn_ => (Kd.fresh' (Kd.R_lt (Ru HO_13)) k_ hn_)), Or.elim hk_ (fun hs_ => hs_.2.2) (fun hn_ => (Kd.freshB (g := gb460) (o := .cells #[.int .i64 a2_0, .int .i64 a2_1, .int .i64 a2_2, .int .i64 a2_3, .string a2_4, .string a2_5, .slice A2_6 l2_6.length c2_6] 33 (0, 0)) (bu BK460) k_ hn_))⟩)) (below_size (bl HB)))
        have n7_ := o_ (blk_below (g := gb460) (o := .cells #[.int .i64 a2_0, .int .i64 a2_1, .int .i64 a2_2, .int .i64 a2_3, .string a2_4, .string a2_5, .slice A2_6 l2_6.length c2_6] 33 (0, 0)) (bu BK460) hb)
        have n8_ := o_ (below_step (bl HB) hb)
        clear HO_0
        clear HO_12
        clear HO_13
        clear HO_461006
        clear HO521
        clear HO526
        clear BK460
        clear HB
        have HO_0 := n0_
        have HO_12 := n1_
        have HO_13 := n2_
        have HO_461006 := n3_
        have HO521 := n4_
        have HO526 := n5_
        have HO529 := n6_
        have BK460 := n7_
        have HB := n8_
        clear n0_ n1_ n2_ n3_ n4_ n5_ n6_ n7_ n8_
        (try clear hb)
        (try clear hb2)
        (try clear hk)
        (try clear hi)
        (try clear ho0)
        refine hK.out _ _ trivial (fun hHeld => ?_)
        clear hK K
        refine norm_ (a' := ?_) ?_ ?_
        rotate_left
        ·show Act.put _ (some 121) _ = _
         simp only [Act.put, List.setIfInBounds_toArray, List.set_cons_zero, List.set_cons_succ, i64_w, i32_w]
         rfl
        refine pu 7 6 HT_ (h := ?_)
        refine pu 8 7 HT_ (h := ?_)
        refine pu 9 8 HT_ (h := ?_)
        refine done_ (done_of HT_.out (by kernel_rfl)) ?_
        try go_wp2
        go_ret3
        exact ⟨_, _, by first | rfl | (simp [errW_none, errW_some] <;> rfl) | (simp only [← hji20]; first | rfl | (simp [errW_none, errW_some] <;> rfl)) | (simp [*, errW_none, errW_some] <;> rfl), by (with_reducible repeat (first | apply Kd.V_alloc | apply Kd.V_drewN | apply Kd.V_drew)); exact Kd.V_mono HO521.out (fun _ hk => hk.1), by (with_reducible repeat (first | apply Kd.V_alloc | apply Kd.V_drewN | apply Kd.V_drew)); exact Kd.V_mono HO529.out (fun _ hk => hk.1), bl HB⟩
       rw [if_pos c67] at H
       have c67b0 : decide (0 < (t478.length : Int)) = true := decide_eq_true c67
       have c67b1 : decide (0 < t478.length) = true := decide_eq_true (by omega)
       clear c67
       by_cases c68 : 0 < (t478.length : Int)
       rotate_left
       ·rw [if_neg c68] at H
        exact absurd H (by simp)
       rw [if_pos c68] at H
       have c68b0 := decide_eq_true c68
       have c68b1 : decide (0 < t478.length) = true := decide_eq_true (by omega)
       clear c68
       obtain ⟨t508, A690, H⟩ := qb H
       try dsimp only at H
       have A69 := o_ A690
       clear A690
       obtain ⟨ji70, hji70⟩ : ∃ j_ : Int, (wrap64 ((rd t478 0) + 1)) = j_ := ⟨_, rfl⟩
       replace H : (if 0 ≤ (ji70) then (if (ji70) ≤ (t461.length : Int) then (some (t508, (t461.drop ((ji70) : Int).toNat), true)) else (none)) else (none)) = some (r1, r2, r3) := by first | (rw [hji70] at H; exact H) | (simp only [hji70] at H ⊢; exact H)
       (try rw [hji70] at A69)
       have hji70w : (IntKind.i64.wrap ((rd t478 0) + 1)) = ji70 := (i64_w _).trans hji70
       by_cases c71 : 0 ≤ (ji70)
       rotate_left
       ·rw [if_neg c71] at H
        exact absurd H (by simp)
       rw [if_pos c71] at H
       have c71b0 := eq_true c71
       have c71b1 := decide_eq_true c71
       clear c71
       by_cases c72 : (ji70) ≤ (t461.length : Int)
       rotate_left
       ·rw [if_neg c72] at H
        exact absurd H (by simp)
       rw [if_pos c72] at H
       have c72b0 := eq_true c72
       have c72b1 := decide_eq_true c72
       clear c72
       obtain ⟨y512, hy512⟩ : ∃ y_ : List (S33), y_ = (t461.drop ((ji70) : Int).toNat) := ⟨_, rfl⟩
       replace H : (some (t508, y512, true)) = some (r1, r2, r3) := by first | (rw [hy512]; with_reducible exact H) | (have H2_ := (Option.bind_some _ _).symm.trans H; rw [hy512]; with_reducible exact H2_) | (have H2_ := (Option.bind_some _ _).symm.trans H; with_reducible exact H2_) | with_reducible exact H | (rw [hy512]; exact H) | exact H
       have Ny512 := o_ hy512
       clear hy512
       simp only [Option.some.injEq, Prod.mk.injEq] at H
       obtain ⟨rfl, rfl, rfl⟩ := H
       try go_wp2
       have n0_ := o_ (Kd.V_drew HO_0.out)
       have n1_ := o_ (Kd.V_drew HO_12.out)
       have n2_ := o_ (Kd.R_drew HO_13.out)
       have n3_ := o_ (Kd.V_drew HO_461006.out)
       have n4_ := o_ (blk_drew BK460.out)
       have n5_ := o_ (below_drew1 HB.out)
       clear HO_0
       clear HO_12
       clear HO_13
       clear HO_461006
       clear BK460
       clear HB
       have HO_0 := n0_
       have HO_12 := n1_
       have HO_13 := n2_
       have HO_461006 := n3_
       have BK460 := n4_
       have HB := n5_
       clear n0_ n1_ n2_ n3_ n4_ n5_
       have p507 : 0 ≤ (0 : Int) := (by omega)
       have q507 : 0 < (t478.length : Int) := oa
       obtain ⟨ad507, e507, hx507_0⟩ := Kd.at_int (Kd.R_reads' HO_13.out).2.2 0 p507 q507
       cases e507
       have qi507 : (0 < t478.length) = True := eq_true (by omega)
       (try rw [show ((0 : Int)).toNat = 0 from rfl] at hx507_0)
       (try rw [Addr.add_zero'] at hx507_0)
       replace p507 := eq_true p507
       replace q507 := eq_true q507
       have p511 : 0 ≤ (0 : Int) := (by omega)
       have q511 : 0 < (t478.length : Int) := oa
       obtain ⟨ad511, e511, hx511_0⟩ := Kd.at_int (Kd.R_reads' HO_13.out).2.2 0 p511 q511
       obtain rfl : ad507 = ad511 := (by injection e511)
       have qi511 : (0 < t478.length) = True := eq_true (by omega)
       (try rw [show ((0 : Int)).toNat = 0 from rfl] at hx511_0)
       (try rw [Addr.add_zero'] at hx511_0)
       replace p511 := eq_true p511
       replace q511 := eq_true q511
       have q74 : ((ji70) : Int) ≤ ((t461.length : Int) : Int) := oa
       obtain ⟨i074, hi074, _, hsz74, _⟩ := info_parts info33
       have hroom74 : t461.length ≤ co32 := (Kd.V_reads' HO_0.out).2.1
       have hC74 : Kd.F k33 _ _ Ao32 t461.length t461 := (Kd.V_at (base := w.heap.size) HO_0.out).2.2
       have q074 : (0 : Int) ≤ ((ji70) : Int) := oa
       have hcut74 := cut_from (P := Try.prog) 23 33 .i64 Try.underlying23 hi074 7 hsz74 Ao32 t461.length co32 (ji70) q074 q74
       have hr74 := Kd.F_cut (m := ((ji70) : Int).toNat) (c := co32) hC74 (by omega) hroom74
       obtain ⟨A74, hA74⟩ : ∃ A1, A1 = (if co32 = ((ji70) : Int).toNat then Ao32 else (Ao32 : Option Addr).map (·.add (((ji70) : Int).toNat * 7))) := ⟨_, rfl⟩
       obtain ⟨c74, hc74⟩ : ∃ c1, c1 = co32 - ((ji70) : Int).toNat := ⟨_, rfl⟩
       have hy74 : y512.length = t461.length - ((ji70) : Int).toNat := (by rw [Ny512.out, List.length_drop] <;> omega)
       rw [show (t461).drop ((ji70) : Int).toNat = y512 from Ny512.out.symm] at hr74
       replace hr74 : Kd.F k33 _ _ A74 y512.length y512 := (by rw [hA74]; exact hr74)
       rw [← hy74, ← hA74, ← hc74] at hcut74
       have HO516 := o_ (show Kd.V k33 33 _ w.heap.size _ (.slice A74 y512.length c74) y512 from Kd.V_mk (by rw [hy74, hc74]; exact Nat.sub_le_sub_right hroom74 _) hr74)
       have HC516 := o_ (show y512.length ≤ c74 from by rw [hy74, hc74]; exact Nat.sub_le_sub_right hroom74 _)
       clear hr74 hC74 hroom74 hi074 hsz74 hc74
       have KY74 := o_ hy74
       have KA74 := o_ hA74
       clear hy74 hA74
       replace q74 := eq_true q74
       refine start_ (n := 15) (S := fun w' => w'.cell? ⟨gb460, 0, none⟩ = some (.int .i64 a2_0) ∧ w'.cell? ⟨gb460, 1, none⟩ = some (.int .i64 a2_1) ∧ w'.cell? ⟨gb460, 2, none⟩ = some (.int .i64 a2_2) ∧ w'.cell? ⟨gb460, 3, none⟩ = some (.int .i64 a2_3) ∧ w'.cell? ⟨gb460, 4, none⟩ = some (.string a2_4) ∧ w'.cell? ⟨gb460, 5, none⟩ = some (.string a2_5) ∧ w'.cell? ⟨gb460, 6, none⟩ = some (.slice A2_6 l2_6.length c2_6) ∧ w'.cell? ad507 = some (.int .i64 (rd t478 0)) ∧ w'.cell? ad507 = some (.int .i64 (rd t478 0))) (ds := []) #[false, false, false, false, false, false, false, false, false, false, false, false, false, false, false] (by kernel_rfl) rfl rfl ⟨(blk_cell BK460.out 0).trans rfl, (blk_cell BK460.out 1).trans rfl, (blk_cell BK460.out 2).trans rfl, (blk_cell BK460.out 3).trans rfl, (blk_cell BK460.out 4).trans rfl, (blk_cell BK460.out 5).trans rfl, (blk_cell BK460.out 6).trans rfl, hx507_0, hx511_0⟩ (fun hHeld => ?_); refine with_tabW r_take.tab23 r_take.bits23 (fun HT_ HW_ => ?_)
       generalize wr.drew = w73 at HO_0 HO_12 HO_13 HO_461006 BK460 HB HO516 hx507_0 hx511_0 hHeld ⊢
       refine pu 0 103 HT_ (h := ?_)
       refine pu 1 104 HT_ (h := ?_)
       refine pu 2 105 HT_ (h := ?_)
       refine pu 6 109 HT_ (h := ?_)
       refine pu 7 110 HT_ (h := ?_)
       refine pu 8 111 HT_ (h := ?_)
       refine tk 3 106 HT_ HW_ hHeld (hy := by rintro w' ⟨s0, s1, s2, s3, s4, s5, s6, s7, s8⟩; go_simp; with_reducible rfl) (h := ?_)
       refine tk 4 107 HT_ HW_ hHeld (hy := by rintro w' ⟨s0, s1, s2, s3, s4, s5, s6, s7, s8⟩; go_simp; with_reducible rfl) (h := ?_)
       refine tk 9 112 HT_ HW_ hHeld (hy := by rintro w' ⟨s0, s1, s2, s3, s4, s5, s6, s7, s8⟩; go_simp; with_reducible rfl) (h := ?_)
       refine pu 10 113 HT_ (h := ?_)
       refine pu 11 114 HT_ (h := ?_)
       refine one_ (i := 5) (N := some 108) #[true, true, true, true, true, true, true, true, true, true, true, true, false, false, false] rfl rfl (one_of HT_.out (by kernel_rfl)) (by decide) (fun K hK => ?_)
       refine goes_ Try.func81 (by kernel_rfl) rfl #[.slice none 0 0, .slice A35 y473.length c35, .int .i64 (rd t478 0), .agg #[.int .i64 a2_0, .int .i64 a2_1, .int .i64 a2_2, .int .i64 a2_3, .string a2_4, .string a2_5, .slice A2_6 l2_6.length c2_6]] (by rfl) rfl rfl (by (try simp only [List.map_toArray, List.map_cons, List.map_nil]); first | done | rfl | (simp only [List.length_drop, List.length_take]; rfl)) ?_
       refine (r_cut.calls (fun k_ => False) _ _ ([] : List (S33)) (fun k_ => (((P0_ k_ ∨ P2_6_ k_) ∨ w.heap.size ≤ k_) ∧ (some k_ ≠ (.slice (some ad507) t478.length co37 : Value).ownBlock ∧ k_ ≠ gb460))) _ _ y473 (rd t478 0) a2_0 a2_1 a2_2 a2_3 a2_4 a2_5 (fun k_ => (((P0_ k_ ∨ P2_6_ k_) ∨ w.heap.size ≤ k_) ∧ (some k_ ≠ (.slice (some ad507) t478.length co37 : Value).ownBlock ∧ k_ ≠ gb460))) _ _ l2_6 t508 _ ?side1 ?side2 ?side3 A69.out).mono ?_
       (case side1 => exact Kd.V_nil _ _ _ _ _)
       (case side2 => exact HO_12.out)
       (case side3 => exact HO_461006.out)
       rintro e w75 ⟨v509, rfl, ho0, hb⟩
       have HS7_ := (hb.cell (World.block_lt_of_cell? _ _ (hHeld.2.2.2.2.2.2.2.1))).trans (hHeld.2.2.2.2.2.2.2.1)
       have HS8_ := (hb.cell (World.block_lt_of_cell? _ _ (hHeld.2.2.2.2.2.2.2.2))).trans (hHeld.2.2.2.2.2.2.2.2)
       refine ⟨_, rfl, ?_⟩
       have n0_ := o_ (Kd.V_elder' (Vu HO_0) (Kd.N_base ho0) hb)
       have n1_ := o_ (Kd.V_elder' (Vu HO_12) (Kd.N_base ho0) hb)
       have n2_ := o_ (Kd.R_below (Ru HO_13) hb)
       have n3_ := o_ (Kd.V_elder' (Vu HO_461006) (Kd.N_base ho0) hb)
       have n4_ := o_ (Kd.V_elder' (Vu HO516) (Kd.N_base ho0) hb)
       have n5_ := o_ (Kd.N_lower (Kd.N_mono (ok' := fun k_ => ((P0_ k_ ∨ P2_6_ k_) ∨ w.heap.size ≤ k_) ∧ some k_ ≠ (.slice (some ad507) t478.length co37 : Value).ownBlock ∧ k_ ≠ gb460) ho0 (fun k_ hk_ => ⟨Or.elim hk_ (fun hs_ => Or.elim hs_ (fun hs_ => (hs_).elim) (fun hs_ => Or.elim hs_ (fun hs_ => hs_.1) (fun hs_ => hs_.1))) (fun hn_ => (.inr (Nat.le_trans (below_size (bl HB)) hn_))), Or.elim hk_ (fun hs_ => Or.elim hs_ (fun hs_ => (hs_).elim) (fun hs_ => Or.elim hs_ (fun hs_ => hs_.2.1) (fun hs_ => hs_.2.1))) (fun hn_ => (Kd.fresh' (Kd.R_lt (Ru HO_13)) k_ hn_)), Or.elim hk_ (fun hs_ => Or.elim hs_ (fun hs_ => (hs_).elim) (fun hs_ => Or.elim hs_ (fun hs_ => hs_.2.2) (fun hs_ => hs_.2.2))) (fun hn_ => (Kd.freshB (g := gb460) (o := .cells #[.int .i64 a2_0, .int .i64 a2_1, .int .i64 a2_2, .int .i64 a2_3, .string a2_4, .string a2_5, .slice A2_6 l2_6.length c2_6] 33 (0, 0)) (bu BK460) k_ hn_))⟩)) (below_size (bl HB)))
       have n6_ := o_ (blk_below (g := gb460) (o := .cells #[.int .i64 a2_0, .int .i64 a2_1, .int .i64 a2_2, .int .i64 a2_3, .string a2_4, .string a2_5, .slice A2_6 l2_6.length c2_6] 33 (0, 0)) (bu BK460) hb)
       have n7_ := o_ (below_step (bl HB) hb)
       clear HO_0
       clear HO_12
       clear HO_13
       clear HO_461006
       clear HO516
       clear BK460
       clear HB
       have HO_0 := n0_
       have HO_12 := n1_
       have HO_13 := n2_
       have HO_461006 := n3_
       have HO516 := n4_
       have HO510 := n5_
       have BK460 := n6_
       have HB := n7_
       clear n0_ n1_ n2_ n3_ n4_ n5_ n6_ n7_
       (try clear hb)
       (try clear hb2)
       (try clear hk)
       (try clear hi)
       (try clear ho0)
       refine hK.out _ _ ⟨(blk_cell BK460.out 0).trans rfl, (blk_cell BK460.out 1).trans rfl, (blk_cell BK460.out 2).trans rfl, (blk_cell BK460.out 3).trans rfl, (blk_cell BK460.out 4).trans rfl, (blk_cell BK460.out 5).trans rfl, (blk_cell BK460.out 6).trans rfl, HS7_, HS8_⟩ (fun hHeld => ?_)
       clear hK K
       refine norm_ (a' := ?_) ?_ ?_
       rotate_left
       ·show Act.put _ (some 108) _ = _
        simp only [Act.put, List.setIfInBounds_toArray, List.set_cons_zero, List.set_cons_succ, i64_w, i32_w]
        rfl
       refine pu 12 6 HT_ (h := ?_)
       refine pu 13 7 HT_ (h := ?_)
       refine pu 14 8 HT_ (h := ?_)
       refine done_ (done_of HT_.out (by kernel_rfl)) ?_
       try go_wp2
       go_ret3
       exact ⟨_, _, by first | rfl | (simp [errW_none, errW_some] <;> rfl) | (simp only [← hji20, ← hji70]; first | rfl | (simp [errW_none, errW_some] <;> rfl)) | (simp [*, errW_none, errW_some] <;> rfl), Kd.N_V (by (with_reducible repeat (first | apply Kd.N_alloc | apply Kd.N_drewN | apply Kd.N_drew)); exact Kd.N_mono HO510.out (fun _ hk => hk.1)), by (with_reducible repeat (first | apply Kd.V_alloc | apply Kd.V_drewN | apply Kd.V_drew)); exact Kd.V_mono HO516.out (fun _ hk => hk.1.1), bl HB⟩
end Go.Proofs.Yteadghhmoggjnaa.Q
end
