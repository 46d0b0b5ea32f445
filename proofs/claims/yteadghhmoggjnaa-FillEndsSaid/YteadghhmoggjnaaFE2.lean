import Derived.Test.YteadghhmoggjnaaFS9
import Derived.Test.YteadghhmoggjnaaFS10
import Derived.Test.YteadghhmoggjnaaFS21
import Derived.Test.YteadghhmoggjnaaFS23
import Derived.Test.YteadghhmoggjnaaFS26
import Derived.Test.YteadghhmoggjnaaFE1
section
-- PRINTED by print.py (a twelfth state) out of the translation. Not trusted: Lean checks it.
namespace Go.Proofs.Yteadghhmoggjnaa.Q
open Go.RowKit Go.Proofs.YteadghhmoggjnaaW.PrintWords Go.Proofs.YteadghhmoggjnaaW.PrintLast Go.Proofs.YteadghhmoggjnaaW.PrintMore
attribute [local go_sem] max2_int min2_int max_two min_two max_three min_three max_four min_four   -- for this text's walks alone
set_option linter.unusedVariables false
set_option linter.unusedSimpArgs false

/-! ### frisketlaw11_FillEnds: function 3 -/
mutual
def frisketlaw11_FillEnds.j0 : Nat → List (S33) → Int → List (S33) → Bool → Option (Bool)
  | 0, _, _, _, _ => none
  | k + 1, x7, x8, x9, x44 => if x44 = true then (some false) else ((frisketref11_Growing.f k x7).bind fun t213 => ((frisketref08_Width.f k x7).bind fun t216 => (if (t213.length : Int) > 0 then (if t216 < x8 then ((frisketref08_Width.f k x9).bind fun t217 => (if t217 = x8 then (if (t213.length : Int) = 0 then ((frisketref08_Same.f k x9 x7).bind fun t218 => (frisketlaw11_FillEnds.j1 k x7 x9 t213 (!t218))) else (if t216 ≥ x8 then ((frisketref08_Same.f k x9 x7).bind fun t219 => (frisketlaw11_FillEnds.j1 k x7 x9 t213 (!t219))) else (frisketlaw11_FillEnds.j1 k x7 x9 t213 false))) else (frisketlaw11_FillEnds.j1 k x7 x9 t213 true))) else (if (t213.length : Int) = 0 then ((frisketref08_Same.f k x9 x7).bind fun t220 => (frisketlaw11_FillEnds.j1 k x7 x9 t213 (!t220))) else (if t216 ≥ x8 then ((frisketref08_Same.f k x9 x7).bind fun t221 => (frisketlaw11_FillEnds.j1 k x7 x9 t213 (!t221))) else (frisketlaw11_FillEnds.j1 k x7 x9 t213 false)))) else (if (t213.length : Int) = 0 then ((frisketref08_Same.f k x9 x7).bind fun t222 => (frisketlaw11_FillEnds.j1 k x7 x9 t213 (!t222))) else (if t216 ≥ x8 then ((frisketref08_Same.f k x9 x7).bind fun t223 => (frisketlaw11_FillEnds.j1 k x7 x9 t213 (!t223))) else (frisketlaw11_FillEnds.j1 k x7 x9 t213 false))))))
def frisketlaw11_FillEnds.j1 : Nat → List (S33) → List (S33) → List Int → Bool → Option (Bool)
  | 0, _, _, _, _ => none
  | k + 1, x7, x9, x12, x78 => if x78 = true then (some false) else (frisketlaw11_FillEnds.l0 k x7 x9 x12 1099511627776 0 0)
def frisketlaw11_FillEnds.l0 : Nat → List (S33) → List (S33) → List Int → Int → Int → Int → Option (Bool)
  | 0, _, _, _, _, _, _ => none
  | k + 1, x7, x9, x12, x14, x15, x16 => if x16 < (x12.length : Int) then (if 0 ≤ x16 then (if 0 ≤ (rd x12 x16) then (if (rd x12 x16) < (x9.length : Int) then (if (rd x12 x16) < (x7.length : Int) then (frisketlaw11_FillEnds.l0 k x7 (x9.set ((rd x12 x16) : Int).toNat (⟨(rd_T33 x9 (rd x12 x16)).f0, (rd_T33 x7 (rd x12 x16)).f1, (rd_T33 x9 (rd x12 x16)).f2, (rd_T33 x9 (rd x12 x16)).f3, (rd_T33 x9 (rd x12 x16)).f4, (rd_T33 x9 (rd x12 x16)).f5, (rd_T33 x9 (rd x12 x16)).f6⟩ : S33)) x12 (mn x14 (wrap64 (((rd_T33 x9 (rd x12 x16)).f1) - ((rd_T33 x7 (rd x12 x16)).f1)))) (mx x15 (wrap64 (((rd_T33 x9 (rd x12 x16)).f1) - ((rd_T33 x7 (rd x12 x16)).f1)))) (wrap64 (x16 + 1))) else (none)) else (none)) else (none)) else (none)) else (if (x12.length : Int) = 0 then ((frisketref08_Same.f k x9 x7).bind fun t232 => (if t232 = true then ((frisketlaw11_sane.f).bind fun t233 => (some t233)) else (some false))) else (if (wrap64 (x15 - x14)) ≤ 1 then ((frisketref08_Same.f k x9 x7).bind fun t234 => (if t234 = true then ((frisketlaw11_sane.f).bind fun t235 => (some t235)) else (some false))) else (some false)))
end
def frisketlaw11_FillEnds.f (k : Nat) (l0 : List Int) (a1 : Int) (a2 : Bool) : Option (Bool) := (frisketlaw11_Row.f k l0).bind fun t205 => ((fill_Adjust.f t205 (wrap64 (Int.tmod (IntKind.u64.wrap (a1)) 2000)) 98 a2).bind fun bt208 => (if bt208.2.2 = 0 then (if bt208.2.1 = 0 then (frisketlaw11_FillEnds.j0 k t205 (wrap64 (Int.tmod (IntKind.u64.wrap (a1)) 2000)) bt208.1 ((bt208.1.length : Int) != (t205.length : Int))) else (frisketlaw11_FillEnds.j0 k t205 (wrap64 (Int.tmod (IntKind.u64.wrap (a1)) 2000)) bt208.1 true)) else (frisketlaw11_FillEnds.j0 k t205 (wrap64 (Int.tmod (IntKind.u64.wrap (a1)) 2000)) bt208.1 true)))
theorem frisketlaw11_FillEnds.mono_l : ∀ k, (∀ y0 y1 y2 y3, LeO (frisketlaw11_FillEnds.j0 k y0 y1 y2 y3) (frisketlaw11_FillEnds.j0 (k + 1) y0 y1 y2 y3)) ∧ (∀ y0 y1 y2 y3, LeO (frisketlaw11_FillEnds.j1 k y0 y1 y2 y3) (frisketlaw11_FillEnds.j1 (k + 1) y0 y1 y2 y3)) ∧ (∀ y0 y1 y2 y3 y4 y5, LeO (frisketlaw11_FillEnds.l0 k y0 y1 y2 y3 y4 y5) (frisketlaw11_FillEnds.l0 (k + 1) y0 y1 y2 y3 y4 y5))
  | 0 => ⟨fun _ _ _ _ r h => by simp [frisketlaw11_FillEnds.j0] at h, fun _ _ _ _ r h => by simp [frisketlaw11_FillEnds.j1] at h, fun _ _ _ _ _ _ r h => by simp [frisketlaw11_FillEnds.l0] at h⟩
  | k + 1 => by
    obtain ⟨ih0, ih1, ih2⟩ := frisketlaw11_FillEnds.mono_l k
    refine ⟨?_, ?_, ?_⟩
    · intro y0 y1 y2 y3
      unfold frisketlaw11_FillEnds.j0
      repeat' first
      | (with_reducible exact ih0 _ _ _ _)
      | (with_reducible exact ih1 _ _ _ _)
      | (with_reducible exact ih2 _ _ _ _ _ _)
      | (with_reducible exact frisketlaw11_Row.mono _ _)
      | (with_reducible exact frisketref08_Same.mono _ _ _)
      | (with_reducible exact frisketref08_Width.mono _ _)
      | (with_reducible exact frisketref11_Growing.mono _ _)
      | (with_reducible exact LeO.refl _)
      | (with_reducible exact LeO.none _)
      | (with_reducible refine LeO.ite ?_ ?_)
      | (with_reducible refine LeO.bind ?_ (fun _ => ?_))
      | exact ih0 _ _ _ _
      | exact ih1 _ _ _ _
      | exact ih2 _ _ _ _ _ _
      | exact frisketlaw11_Row.mono _ _
      | exact frisketref08_Same.mono _ _ _
      | exact frisketref08_Width.mono _ _
      | exact frisketref11_Growing.mono _ _
      | exact LeO.none _
      | refine LeO.ite ?_ ?_
      | refine LeO.bind ?_ (fun _ => ?_)
    · intro y0 y1 y2 y3
      unfold frisketlaw11_FillEnds.j1
      repeat' first
      | (with_reducible exact ih0 _ _ _ _)
      | (with_reducible exact ih1 _ _ _ _)
      | (with_reducible exact ih2 _ _ _ _ _ _)
      | (with_reducible exact frisketlaw11_Row.mono _ _)
      | (with_reducible exact frisketref08_Same.mono _ _ _)
      | (with_reducible exact frisketref08_Width.mono _ _)
      | (with_reducible exact frisketref11_Growing.mono _ _)
      | (with_reducible exact LeO.refl _)
      | (with_reducible exact LeO.none _)
      | (with_reducible refine LeO.ite ?_ ?_)
      | (with_reducible refine LeO.bind ?_ (fun _ => ?_))
      | exact ih0 _ _ _ _
      | exact ih1 _ _ _ _
      | exact ih2 _ _ _ _ _ _
      | exact frisketlaw11_Row.mono _ _
      | exact frisketref08_Same.mono _ _ _
      | exact frisketref08_Width.mono _ _
      | exact frisketref11_Growing.mono _ _
      | exact LeO.none _
      | refine LeO.ite ?_ ?_
      | refine LeO.bind ?_ (fun _ => ?_)
    · intro y0 y1 y2 y3 y4 y5
      unfold frisketlaw11_FillEnds.l0
      repeat' first
      | (with_reducible exact ih0 _ _ _ _)
      | (with_reducible exact ih1 _ _ _ _)
      | (with_reducible exact ih2 _ _ _ _ _ _)
      | (with_reducible exact frisketlaw11_Row.mono _ _)
      | (with_reducible exact frisketref08_Same.mono _ _ _)
      | (with_reducible exact frisketref08_Width.mono _ _)
      | (with_reducible exact frisketref11_Growing.mono _ _)
      | (with_reducible exact LeO.refl _)
      | (with_reducible exact LeO.none _)
      | (with_reducible refine LeO.ite ?_ ?_)
      | (with_reducible refine LeO.bind ?_ (fun _ => ?_))
      | exact ih0 _ _ _ _
      | exact ih1 _ _ _ _
      | exact ih2 _ _ _ _ _ _
      | exact frisketlaw11_Row.mono _ _
      | exact frisketref08_Same.mono _ _ _
      | exact frisketref08_Width.mono _ _
      | exact frisketref11_Growing.mono _ _
      | exact LeO.none _
      | refine LeO.ite ?_ ?_
      | refine LeO.bind ?_ (fun _ => ?_)
theorem frisketlaw11_FillEnds.mono : ∀ a0 a1 a2 k, LeO (frisketlaw11_FillEnds.f k a0 a1 a2) (frisketlaw11_FillEnds.f (k + 1) a0 a1 a2) := by
  intro a0 a1 a2 k
  obtain ⟨ih0, ih1, ih2⟩ := frisketlaw11_FillEnds.mono_l k
  unfold frisketlaw11_FillEnds.f
  repeat' first
      | (with_reducible exact ih0 _ _ _ _)
      | (with_reducible exact ih1 _ _ _ _)
      | (with_reducible exact ih2 _ _ _ _ _ _)
      | (with_reducible exact frisketlaw11_Row.mono _ _)
      | (with_reducible exact frisketref08_Same.mono _ _ _)
      | (with_reducible exact frisketref08_Width.mono _ _)
      | (with_reducible exact frisketref11_Growing.mono _ _)
      | (with_reducible exact LeO.refl _)
      | (with_reducible exact LeO.none _)
      | (with_reducible refine LeO.ite ?_ ?_)
      | (with_reducible refine LeO.bind ?_ (fun _ => ?_))
      | exact ih0 _ _ _ _
      | exact ih1 _ _ _ _
      | exact ih2 _ _ _ _ _ _
      | exact frisketlaw11_Row.mono _ _
      | exact frisketref08_Same.mono _ _ _
      | exact frisketref08_Width.mono _ _
      | exact frisketref11_Growing.mono _ _
      | exact LeO.none _
      | refine LeO.ite ?_ ?_
      | refine LeO.bind ?_ (fun _ => ?_)
def frisketlaw11_FillEnds.T14 : Bool × List (List Nat × List Nat) := (true, [([], []), ([], []), ([], []), ([1, 2], [1, 2]), ([3], [3]), ([0, 4], [0, 4]), ([5], [5]), ([6], [6]), ([], []), ([], []), ([], []), ([9, 10], [9, 10]), ([11], [11]), ([8, 12], [8, 12]), ([13], [13]), ([14], [14]), ([7, 15], [7, 15]), ([16, 0, 1, 2, 3, 4, 5, 6, 7, 8, 9, 10, 11, 12, 13, 14, 15, 16], [16])])
def frisketlaw11_FillEnds.B14 : List Nat := [0, 0, 0, 6, 14, 31, 63, 127, 0, 0, 0, 1536, 3584, 7936, 16128, 32512, 65535, 131071]
theorem frisketlaw11_FillEnds.tab14 : rtab .any (opsOf Try.f3 14) = frisketlaw11_FillEnds.T14 := by kernel_rfl
theorem frisketlaw11_FillEnds.bits14 : waitsOk frisketlaw11_FillEnds.T14.2 frisketlaw11_FillEnds.B14 = true := by kernel_rfl
def frisketlaw11_FillEnds.T16 : Bool × List (List Nat × List Nat) := (true, [([], []), ([], []), ([], []), ([1, 2], [1, 2]), ([3], [3]), ([], []), ([], []), ([], []), ([6, 7], [6, 7]), ([8], [8]), ([5, 9], [5, 9]), ([10], [10]), ([11], [11]), ([0, 4, 0, 1, 2, 3, 4, 5, 6, 7, 8, 9, 10, 11, 12], [0, 4]), ([13, 0, 1, 2, 3, 4, 5, 6, 7, 8, 9, 10, 11, 12], [13]), ([14, 12, 0, 1, 2, 3, 4, 5, 6, 7, 8, 9, 10, 11, 12], [12, 14])])
def frisketlaw11_FillEnds.B16 : List Nat := [0, 0, 0, 6, 14, 0, 0, 0, 192, 448, 992, 2016, 4064, 8191, 16383, 32767]
theorem frisketlaw11_FillEnds.tab16 : rtab .any (opsOf Try.f3 16) = frisketlaw11_FillEnds.T16 := by kernel_rfl
theorem frisketlaw11_FillEnds.bits16 : waitsOk frisketlaw11_FillEnds.T16.2 frisketlaw11_FillEnds.B16 = true := by kernel_rfl
set_option maxHeartbeats 8000000 in
set_option maxRecDepth 100000 in
theorem frisketlaw11_FillEnds.calls (k : Nat) (A0 : Option Addr) (c0 : Nat) (l0 : List Int) (a1 : Int) (a2 : Bool) (r : Bool) (w : World) (hr0 : Kd.C (Kd.int .i64) w A0 l0.length l0) (hc0 : l0.length ≤ c0) (h : frisketlaw11_FillEnds.f k l0 a1 a2 = some r) :
    Calls Try.prog 3 #[.slice A0 l0.length c0, .int .i64 a1, .bool a2] w fun e w' => e = .returned (.bool r) ∧ Below w.heap.size w w' := by
  have HR0 := Aside0.mk hr0
  have HC0 := Aside0.mk hc0
  clear hr0 hc0
  have HB := Aside0.mk (Below.refl w.heap.size w)
  have H : ((frisketlaw11_Row.f k l0).bind fun t205 => ((fill_Adjust.f t205 (wrap64 (Int.tmod (IntKind.u64.wrap (a1)) 2000)) 98 a2).bind fun bt208 => (if bt208.2.2 = 0 then (if bt208.2.1 = 0 then (frisketlaw11_FillEnds.j0 k t205 (wrap64 (Int.tmod (IntKind.u64.wrap (a1)) 2000)) bt208.1 ((bt208.1.length : Int) != (t205.length : Int))) else (frisketlaw11_FillEnds.j0 k t205 (wrap64 (Int.tmod (IntKind.u64.wrap (a1)) 2000)) bt208.1 true)) else (frisketlaw11_FillEnds.j0 k t205 (wrap64 (Int.tmod (IntKind.u64.wrap (a1)) 2000)) bt208.1 true)))) = some r := h
  clear h
  replace H := Option.bind_eq_some_iff.mp H
  obtain ⟨t205, A40, H⟩ := H
  replace H : ((fill_Adjust.f t205 (wrap64 (Int.tmod (IntKind.u64.wrap (a1)) 2000)) 98 a2).bind fun bt208 => (if bt208.2.2 = 0 then (if bt208.2.1 = 0 then (frisketlaw11_FillEnds.j0 k t205 (wrap64 (Int.tmod (IntKind.u64.wrap (a1)) 2000)) bt208.1 ((bt208.1.length : Int) != (t205.length : Int))) else (frisketlaw11_FillEnds.j0 k t205 (wrap64 (Int.tmod (IntKind.u64.wrap (a1)) 2000)) bt208.1 true)) else (frisketlaw11_FillEnds.j0 k t205 (wrap64 (Int.tmod (IntKind.u64.wrap (a1)) 2000)) bt208.1 true))) = some r := H
  have A4 := Aside0.mk A40
  clear A40
  replace H := Option.bind_eq_some_iff.mp H
  obtain ⟨⟨t208, t209, t210⟩, A50, H⟩ := H
  replace H : (if t210 = 0 then (if t209 = 0 then (frisketlaw11_FillEnds.j0 k t205 (wrap64 (Int.tmod (IntKind.u64.wrap (a1)) 2000)) t208 ((t208.length : Int) != (t205.length : Int))) else (frisketlaw11_FillEnds.j0 k t205 (wrap64 (Int.tmod (IntKind.u64.wrap (a1)) 2000)) t208 true)) else (frisketlaw11_FillEnds.j0 k t205 (wrap64 (Int.tmod (IntKind.u64.wrap (a1)) 2000)) t208 true)) = some r := H
  have A5 := Aside0.mk A50
  clear A50
  have HC6 := Aside0.mk H
  clear H
  go_enter Try.func3, Try.ntmps3
  go_upto_region 4 with (first | ((with_reducible refine gate_callee (f := 10) rfl ?_); refine goesL_ (some 19) rfl rfl Try.func10 (by kernel_rfl) rfl #[.slice A0 l0.length c0] rfl (by (try simp only [List.map_toArray, List.map_cons, List.map_nil]); first | done | rfl | (simp only [List.length_drop, List.length_take]; rfl)) ?_; (with_reducible refine (frisketlaw11_Row.calls k _ _ l0 t205 _ ?side1 ?side2 A4.out).mono ?_); (case side1 => repeat (first | exact HR0.out | (with_reducible refine Kd.C_alloc ?_ _) | (with_reducible refine Kd.C_drewN ?_ _) | (with_reducible refine Kd.C_drew ?_))); (case side2 => exact HC0.out); rintro e w7 ⟨v206, rfl, ho0, hb⟩; refine ⟨_, rfl, ?_⟩; have n0_ := Aside0.mk (Kd.S_lower ho0 (below_size (by repeat (first | (with_reducible first | exact HB.out | apply below_alloc | apply pw_below_drewN | apply below_drew1) | exact HB.out)))); have n1_ := Aside0.mk (below_step (by repeat (first | (with_reducible first | exact HB.out | apply below_alloc | apply pw_below_drewN | apply below_drew1) | exact HB.out)) hb); clear HB; have HO207 := n0_; have HB := n1_; clear n0_ n1_; (try clear hb); (try clear hb2); (try clear hk); (try clear hi); (try clear ho0); obtain ⟨Ao8, co8, eo8⟩ := Kd.S_slice HO207.out; subst eo8) | ((with_reducible refine gate_callee (f := 11) rfl ?_); refine goesL_ (some 28) rfl rfl Try.func11 (by kernel_rfl) rfl #[.slice Ao8 t205.length co8, .int .i64 (wrap64 (Int.tmod (IntKind.u64.wrap (a1)) 2000)), .int .u8 98, .bool a2] rfl (by (try simp only [List.map_toArray, List.map_cons, List.map_nil]); first | done | rfl | (simp only [List.length_drop, List.length_take]; rfl)) ?_; (with_reducible refine (fill_Adjust.calls _ _ t205 (wrap64 (Int.tmod (IntKind.u64.wrap (a1)) 2000)) 98 a2 t208 t209 t210 _ ?side1 ?side2 A5.out).mono ?_); (case side1 => repeat (first | exact (Kd.S_reads' HO207.out).2.2 | (with_reducible refine Kd.C_alloc ?_ _) | (with_reducible refine Kd.C_drewN ?_ _) | (with_reducible refine Kd.C_drew ?_))); (case side2 => exact (Kd.S_reads' HO207.out).2.1); rintro e w9 ⟨v211, rfl, ho0, hb⟩; refine ⟨_, rfl, ?_⟩; have n0_ := Aside0.mk (Kd.S_elder' (by (with_reducible repeat (first | apply Kd.S_alloc | apply Kd.S_drewN | apply Kd.S_drew)); exact HO207.out) (Kd.S_base ho0) hb); have n1_ := Aside0.mk (Kd.S_lower (Kd.S_new' ho0 (Kd.S_lt (by (with_reducible repeat (first | apply Kd.S_alloc | apply Kd.S_drewN | apply Kd.S_drew)); exact HO207.out))) (below_size (by repeat (first | (with_reducible first | exact HB.out | apply below_alloc | apply pw_below_drewN | apply below_drew1) | exact HB.out)))); have n2_ := Aside0.mk (below_step (by repeat (first | (with_reducible first | exact HB.out | apply below_alloc | apply pw_below_drewN | apply below_drew1) | exact HB.out)) hb); clear HO207; clear HB; have HO207 := n0_; have HO212 := n1_; have HB := n2_; clear n0_ n1_ n2_; (try clear hb); (try clear hb2); (try clear hk); (try clear hi); (try clear ho0)))
  (try simp only [Act.put, List.setIfInBounds_toArray, List.set_cons_zero, List.set_cons_succ])
  go_cut [44] (fun v44 wc => ∃ (kq : Nat) (x44_5 : Bool), v44 = .bool x44_5 ∧ Aside0 (frisketlaw11_FillEnds.j0 kq t205 (wrap64 (Int.tmod (IntKind.u64.wrap (a1)) 2000)) t208 x44_5 = some r) ∧ Aside0 (kq ≤ k) ∧ Aside0 (Kd.S k33 33 wc w.heap.size (fun k_ => some k_ ≠ (v211 : Value).ownBlock) (.slice Ao8 t205.length co8) t205) ∧ Aside0 (Kd.S k33 33 wc w.heap.size (fun k_ => some k_ ≠ ((.slice Ao8 t205.length co8) : Value).ownBlock) v211 t208) ∧ Aside0 (Below w.heap.size w wc))
  case first =>
    have H := HC6.out
    clear HC6
    by_cases c10 : t210 = 0
    · rw [if_pos c10] at H
      have c10b0 : (t210 == 0) = true := beq_iff_eq.mpr c10
      have c10b1 : (t210 != 0) = false := bne_eq_false_iff_eq.mpr c10
      clear c10
      (first | rw [c10b0] | (simp only [i64_w, i32_w]; rw [c10b0]) | skip)
      by_cases c11 : t209 = 0
      · rw [if_pos c11] at H
        have c11b0 : (t209 == 0) = true := beq_iff_eq.mpr c11
        have c11b1 : (t209 != 0) = false := bne_eq_false_iff_eq.mpr c11
        clear c11
        have H' := Aside0.mk H
        clear H
        obtain ⟨Ao12, co12, eo12⟩ := Kd.S_slice HO212.out
        subst eo12
        go_wp2
        go_meet
        case rel => exact ⟨_, (((t208.length : Int) != (t205.length : Int))), (by first | rfl | (simp; done) | (simp [*]; done)), H', ⟨by first | omega | exact Nat.le_refl _⟩, ⟨by (with_reducible repeat (first | apply Kd.S_alloc | apply Kd.S_drewN | apply Kd.S_drew)); exact Kd.S_mono HO207.out (fun _ hk => hk.2)⟩, ⟨by (with_reducible repeat (first | apply Kd.S_alloc | apply Kd.S_drewN | apply Kd.S_drew)); exact Kd.S_mono HO212.out (fun _ hk => hk.2)⟩, ⟨by repeat (first | (with_reducible first | exact HB.out | apply below_alloc | apply pw_below_drewN | apply below_drew1) | exact HB.out)⟩⟩
      · rw [if_neg c11] at H
        have c11b0 : (t209 == 0) = false := beq_eq_false_iff_ne.mpr c11
        have c11b1 : (t209 != 0) = true := bne_iff_ne.mpr c11
        have H' := Aside0.mk H
        clear H
        go_wp2
        go_meet
        case rel => exact ⟨_, (true), (by first | rfl | (simp; done) | (simp [*]; done)), H', ⟨by first | omega | exact Nat.le_refl _⟩, ⟨by (with_reducible repeat (first | apply Kd.S_alloc | apply Kd.S_drewN | apply Kd.S_drew)); exact Kd.S_mono HO207.out (fun _ hk => hk.2)⟩, ⟨by (with_reducible repeat (first | apply Kd.S_alloc | apply Kd.S_drewN | apply Kd.S_drew)); exact Kd.S_mono HO212.out (fun _ hk => hk.2)⟩, ⟨by repeat (first | (with_reducible first | exact HB.out | apply below_alloc | apply pw_below_drewN | apply below_drew1) | exact HB.out)⟩⟩
    · rw [if_neg c10] at H
      have c10b0 : (t210 == 0) = false := beq_eq_false_iff_ne.mpr c10
      have c10b1 : (t210 != 0) = true := bne_iff_ne.mpr c10
      (first | rw [c10b0] | (simp only [i64_w, i32_w]; rw [c10b0]) | skip)
      have H' := Aside0.mk H
      clear H
      go_wp2
      go_meet
      case rel => exact ⟨_, (true), (by first | rfl | (simp; done) | (simp [*]; done)), H', ⟨by first | omega | exact Nat.le_refl _⟩, ⟨by (with_reducible repeat (first | apply Kd.S_alloc | apply Kd.S_drewN | apply Kd.S_drew)); exact Kd.S_mono HO207.out (fun _ hk => hk.2)⟩, ⟨by (with_reducible repeat (first | apply Kd.S_alloc | apply Kd.S_drewN | apply Kd.S_drew)); exact Kd.S_mono HO212.out (fun _ hk => hk.2)⟩, ⟨by repeat (first | (with_reducible first | exact HB.out | apply below_alloc | apply pw_below_drewN | apply below_drew1) | exact HB.out)⟩⟩
  case rest =>
    clear HC6
    try clear c1
    try clear p2
    try clear c3
    try clear p6
    try clear c10
    try clear c10b0
    try clear c10b1
    try clear c11
    try clear c11b0
    try clear c11b1
    obtain ⟨kq, x44_5, rfl, HA, HJ5, HO_7, HO_9, HB⟩ := hcut
    cases kq with
    | zero => exact absurd HA.out (by simp [frisketlaw11_FillEnds.j0])
    | succ kj5 =>
      have H := HA.out
      clear HA
      simp only [frisketlaw11_FillEnds.j0] at H
      by_cases c13 : x44_5 = true
      · subst c13
        have H1 : (some false) = some r := by rw [if_pos rfl] at H; exact H
        clear H
        have H := H1
        clear H1
        obtain rfl := Option.some.inj H
        go_wp2
        go_ret
        exact ⟨by first | rfl | (simp [errW_none, errW_some] <;> rfl) | (simp [*, errW_none, errW_some] <;> rfl), by repeat (first | (with_reducible first | exact HB.out | apply below_alloc | apply pw_below_drewN | apply below_drew1) | exact HB.out)⟩
      · replace c13 := Bool.eq_false_iff.mpr c13
        subst c13
        have H1 : ((frisketref11_Growing.f kj5 t205).bind fun t213 => ((frisketref08_Width.f kj5 t205).bind fun t216 => (if (t213.length : Int) > 0 then (if t216 < (wrap64 (Int.tmod (IntKind.u64.wrap (a1)) 2000)) then ((frisketref08_Width.f kj5 t208).bind fun t217 => (if t217 = (wrap64 (Int.tmod (IntKind.u64.wrap (a1)) 2000)) then (if (t213.length : Int) = 0 then ((frisketref08_Same.f kj5 t208 t205).bind fun t218 => (frisketlaw11_FillEnds.j1 kj5 t205 t208 t213 (!t218))) else (if t216 ≥ (wrap64 (Int.tmod (IntKind.u64.wrap (a1)) 2000)) then ((frisketref08_Same.f kj5 t208 t205).bind fun t219 => (frisketlaw11_FillEnds.j1 kj5 t205 t208 t213 (!t219))) else (frisketlaw11_FillEnds.j1 kj5 t205 t208 t213 false))) else (frisketlaw11_FillEnds.j1 kj5 t205 t208 t213 true))) else (if (t213.length : Int) = 0 then ((frisketref08_Same.f kj5 t208 t205).bind fun t220 => (frisketlaw11_FillEnds.j1 kj5 t205 t208 t213 (!t220))) else (if t216 ≥ (wrap64 (Int.tmod (IntKind.u64.wrap (a1)) 2000)) then ((frisketref08_Same.f kj5 t208 t205).bind fun t221 => (frisketlaw11_FillEnds.j1 kj5 t205 t208 t213 (!t221))) else (frisketlaw11_FillEnds.j1 kj5 t205 t208 t213 false)))) else (if (t213.length : Int) = 0 then ((frisketref08_Same.f kj5 t208 t205).bind fun t222 => (frisketlaw11_FillEnds.j1 kj5 t205 t208 t213 (!t222))) else (if t216 ≥ (wrap64 (Int.tmod (IntKind.u64.wrap (a1)) 2000)) then ((frisketref08_Same.f kj5 t208 t205).bind fun t223 => (frisketlaw11_FillEnds.j1 kj5 t205 t208 t213 (!t223))) else (frisketlaw11_FillEnds.j1 kj5 t205 t208 t213 false)))))) = some r := by rw [if_neg (show ¬ (false = true) by decide)] at H; exact H
        clear H
        have H := H1
        clear H1
        replace H := Option.bind_eq_some_iff.mp H
        obtain ⟨t213, A140, H⟩ := H
        replace H : ((frisketref08_Width.f kj5 t205).bind fun t216 => (if (t213.length : Int) > 0 then (if t216 < (wrap64 (Int.tmod (IntKind.u64.wrap (a1)) 2000)) then ((frisketref08_Width.f kj5 t208).bind fun t217 => (if t217 = (wrap64 (Int.tmod (IntKind.u64.wrap (a1)) 2000)) then (if (t213.length : Int) = 0 then ((frisketref08_Same.f kj5 t208 t205).bind fun t218 => (frisketlaw11_FillEnds.j1 kj5 t205 t208 t213 (!t218))) else (if t216 ≥ (wrap64 (Int.tmod (IntKind.u64.wrap (a1)) 2000)) then ((frisketref08_Same.f kj5 t208 t205).bind fun t219 => (frisketlaw11_FillEnds.j1 kj5 t205 t208 t213 (!t219))) else (frisketlaw11_FillEnds.j1 kj5 t205 t208 t213 false))) else (frisketlaw11_FillEnds.j1 kj5 t205 t208 t213 true))) else (if (t213.length : Int) = 0 then ((frisketref08_Same.f kj5 t208 t205).bind fun t220 => (frisketlaw11_FillEnds.j1 kj5 t205 t208 t213 (!t220))) else (if t216 ≥ (wrap64 (Int.tmod (IntKind.u64.wrap (a1)) 2000)) then ((frisketref08_Same.f kj5 t208 t205).bind fun t221 => (frisketlaw11_FillEnds.j1 kj5 t205 t208 t213 (!t221))) else (frisketlaw11_FillEnds.j1 kj5 t205 t208 t213 false)))) else (if (t213.length : Int) = 0 then ((frisketref08_Same.f kj5 t208 t205).bind fun t222 => (frisketlaw11_FillEnds.j1 kj5 t205 t208 t213 (!t222))) else (if t216 ≥ (wrap64 (Int.tmod (IntKind.u64.wrap (a1)) 2000)) then ((frisketref08_Same.f kj5 t208 t205).bind fun t223 => (frisketlaw11_FillEnds.j1 kj5 t205 t208 t213 (!t223))) else (frisketlaw11_FillEnds.j1 kj5 t205 t208 t213 false))))) = some r := H
        have A14 := Aside0.mk A140
        clear A140
        replace H := Option.bind_eq_some_iff.mp H
        obtain ⟨t216, A150, H⟩ := H
        replace H : (if (t213.length : Int) > 0 then (if t216 < (wrap64 (Int.tmod (IntKind.u64.wrap (a1)) 2000)) then ((frisketref08_Width.f kj5 t208).bind fun t217 => (if t217 = (wrap64 (Int.tmod (IntKind.u64.wrap (a1)) 2000)) then (if (t213.length : Int) = 0 then ((frisketref08_Same.f kj5 t208 t205).bind fun t218 => (frisketlaw11_FillEnds.j1 kj5 t205 t208 t213 (!t218))) else (if t216 ≥ (wrap64 (Int.tmod (IntKind.u64.wrap (a1)) 2000)) then ((frisketref08_Same.f kj5 t208 t205).bind fun t219 => (frisketlaw11_FillEnds.j1 kj5 t205 t208 t213 (!t219))) else (frisketlaw11_FillEnds.j1 kj5 t205 t208 t213 false))) else (frisketlaw11_FillEnds.j1 kj5 t205 t208 t213 true))) else (if (t213.length : Int) = 0 then ((frisketref08_Same.f kj5 t208 t205).bind fun t220 => (frisketlaw11_FillEnds.j1 kj5 t205 t208 t213 (!t220))) else (if t216 ≥ (wrap64 (Int.tmod (IntKind.u64.wrap (a1)) 2000)) then ((frisketref08_Same.f kj5 t208 t205).bind fun t221 => (frisketlaw11_FillEnds.j1 kj5 t205 t208 t213 (!t221))) else (frisketlaw11_FillEnds.j1 kj5 t205 t208 t213 false)))) else (if (t213.length : Int) = 0 then ((frisketref08_Same.f kj5 t208 t205).bind fun t222 => (frisketlaw11_FillEnds.j1 kj5 t205 t208 t213 (!t222))) else (if t216 ≥ (wrap64 (Int.tmod (IntKind.u64.wrap (a1)) 2000)) then ((frisketref08_Same.f kj5 t208 t205).bind fun t223 => (frisketlaw11_FillEnds.j1 kj5 t205 t208 t213 (!t223))) else (frisketlaw11_FillEnds.j1 kj5 t205 t208 t213 false)))) = some r := H
        have A15 := Aside0.mk A150
        clear A150
        have HC16 := Aside0.mk H
        clear H
        go_upto_region 8 with (first | ((with_reducible refine gate_callee (f := 12) rfl ?_); refine goesL_ (some 46) rfl rfl Try.func12 (by kernel_rfl) rfl #[.slice Ao8 t205.length co8] rfl (by (try simp only [List.map_toArray, List.map_cons, List.map_nil]); first | done | rfl | (simp only [List.length_drop, List.length_take]; rfl)) ?_; (with_reducible refine (frisketref11_Growing.calls kj5 _ _ t205 t213 _ ?side1 ?side2 A14.out).mono ?_); (case side1 => repeat (first | exact (Kd.S_reads' HO_7.out).2.2 | (with_reducible refine Kd.C_alloc ?_ _) | (with_reducible refine Kd.C_drewN ?_ _) | (with_reducible refine Kd.C_drew ?_))); (case side2 => exact (Kd.S_reads' HO_7.out).2.1); rintro e w17 ⟨v214, rfl, ho0, hb⟩; refine ⟨_, rfl, ?_⟩; have n0_ := Aside0.mk (Kd.S_elder' (by (with_reducible repeat (first | apply Kd.S_alloc | apply Kd.S_drewN | apply Kd.S_drew)); exact HO_7.out) (Kd.R_base ho0) hb); have n1_ := Aside0.mk (Kd.S_elder' (by (with_reducible repeat (first | apply Kd.S_alloc | apply Kd.S_drewN | apply Kd.S_drew)); exact HO_9.out) (Kd.R_base ho0) hb); have n2_ := Aside0.mk (Kd.R_lower ho0 (below_size (by repeat (first | (with_reducible first | exact HB.out | apply below_alloc | apply pw_below_drewN | apply below_drew1) | exact HB.out)))); have n3_ := Aside0.mk (below_step (by repeat (first | (with_reducible first | exact HB.out | apply below_alloc | apply pw_below_drewN | apply below_drew1) | exact HB.out)) hb); clear HO_7; clear HO_9; clear HB; have HO_7 := n0_; have HO_9 := n1_; have HO215 := n2_; have HB := n3_; clear n0_ n1_ n2_ n3_; (try clear hb); (try clear hb2); (try clear hk); (try clear hi); (try clear ho0)) | ((with_reducible refine gate_callee (f := 13) rfl ?_); refine goesL_ (some 48) rfl rfl Try.func13 (by kernel_rfl) rfl #[.slice Ao8 t205.length co8] rfl (by (try simp only [List.map_toArray, List.map_cons, List.map_nil]); first | done | rfl | (simp only [List.length_drop, List.length_take]; rfl)) ?_; (with_reducible refine (frisketref08_Width.calls kj5 _ _ t205 t216 _ ?side1 ?side2 A15.out).mono ?_); (case side1 => repeat (first | exact (Kd.S_reads' HO_7.out).2.2 | (with_reducible refine Kd.C_alloc ?_ _) | (with_reducible refine Kd.C_drewN ?_ _) | (with_reducible refine Kd.C_drew ?_))); (case side2 => exact (Kd.S_reads' HO_7.out).2.1); rintro e w' ⟨rfl, ⟨nd, rfl⟩⟩; refine ⟨_, rfl, ?_⟩))
        (try simp only [Act.put, List.setIfInBounds_toArray, List.set_cons_zero, List.set_cons_succ])
        go_cut [78] (fun v78 wc => ∃ (kq : Nat) (x78_15 : Bool), v78 = .bool x78_15 ∧ Aside0 (frisketlaw11_FillEnds.j1 kq t205 t208 t213 x78_15 = some r) ∧ Aside0 (kq ≤ kj5) ∧ Aside0 (Kd.S k33 33 wc w.heap.size (fun k_ => some k_ ≠ (v211 : Value).ownBlock ∧ some k_ ≠ (v214 : Value).ownBlock) (.slice Ao8 t205.length co8) t205) ∧ Aside0 (Kd.S k33 33 wc w.heap.size (fun k_ => some k_ ≠ ((.slice Ao8 t205.length co8) : Value).ownBlock ∧ some k_ ≠ (v214 : Value).ownBlock) v211 t208) ∧ Aside0 (Kd.R (Kd.int .i64) 3 wc w.heap.size (fun _ => True) v214 t213) ∧ Aside0 (Below w.heap.size w wc))
        case first =>
          have H := HC16.out
          clear HC16
          by_cases c18 : (t213.length : Int) > 0
          · rw [if_pos c18] at H
            have c18b0 : decide (0 < (t213.length : Int)) = true := decide_eq_true c18
            have c18b1 : decide (0 < t213.length) = true := decide_eq_true (by omega)
            clear c18
            (first | rw [c18b0] | (simp only [i64_w, i32_w]; rw [c18b0]) | skip)
            by_cases c19 : t216 < (wrap64 (Int.tmod (IntKind.u64.wrap (a1)) 2000))
            · rw [if_pos c19] at H
              have c19b0 : decide (t216 < (wrap64 (Int.tmod (IntKind.u64.wrap (a1)) 2000))) = true := decide_eq_true c19
              clear c19
              replace H := Option.bind_eq_some_iff.mp H
              obtain ⟨t217, A200, H⟩ := H
              replace H : (if t217 = (wrap64 (Int.tmod (IntKind.u64.wrap (a1)) 2000)) then (if (t213.length : Int) = 0 then ((frisketref08_Same.f kj5 t208 t205).bind fun t218 => (frisketlaw11_FillEnds.j1 kj5 t205 t208 t213 (!t218))) else (if t216 ≥ (wrap64 (Int.tmod (IntKind.u64.wrap (a1)) 2000)) then ((frisketref08_Same.f kj5 t208 t205).bind fun t219 => (frisketlaw11_FillEnds.j1 kj5 t205 t208 t213 (!t219))) else (frisketlaw11_FillEnds.j1 kj5 t205 t208 t213 false))) else (frisketlaw11_FillEnds.j1 kj5 t205 t208 t213 true)) = some r := H
              have A20 := Aside0.mk A200
              clear A200
              by_cases c21 : t217 = (wrap64 (Int.tmod (IntKind.u64.wrap (a1)) 2000))
              · rw [if_pos c21] at H
                have c21b0 : (t217 == (wrap64 (Int.tmod (IntKind.u64.wrap (a1)) 2000))) = true := beq_iff_eq.mpr c21
                have c21b1 : (t217 != (wrap64 (Int.tmod (IntKind.u64.wrap (a1)) 2000))) = false := bne_eq_false_iff_eq.mpr c21
                clear c21
                by_cases c22 : (t213.length : Int) = 0
                · rw [if_pos c22] at H
                  have c22b0 : ((t213.length : Int) == 0) = true := beq_iff_eq.mpr c22
                  have c22b1 : ((t213.length : Int) != 0) = false := bne_eq_false_iff_eq.mpr c22
                  clear c22
                  replace H := Option.bind_eq_some_iff.mp H
                  obtain ⟨t218, A230, H⟩ := H
                  replace H : (frisketlaw11_FillEnds.j1 kj5 t205 t208 t213 (!t218)) = some r := H
                  have A23 := Aside0.mk A230
                  clear A230
                  have H' := Aside0.mk H
                  clear H
                  obtain ⟨Ao24, co24, eo24⟩ := Kd.R_slice HO215.out
                  subst eo24
                  obtain ⟨Ao25, co25, eo25⟩ := Kd.S_slice HO_9.out
                  subst eo25
                  go_wp2_with (first | (go_at_call 13; (with_reducible refine (frisketref08_Width.calls kj5 _ _ t208 t217 _ ?side1 ?side2 A20.out).mono ?_); (case side1 => repeat (first | exact (Kd.S_reads' HO_9.out).2.2 | (with_reducible refine Kd.C_alloc ?_ _) | (with_reducible refine Kd.C_drewN ?_ _) | (with_reducible refine Kd.C_drew ?_))); (case side2 => exact (Kd.S_reads' HO_9.out).2.1); rintro e w' ⟨rfl, ⟨nd, rfl⟩⟩) | (go_at_call 14; (with_reducible refine (frisketref08_Same.calls kj5 _ _ t208 _ _ t205 t218 _ ?side1 ?side2 ?side3 ?side4 A23.out).mono ?_); (case side1 => repeat (first | exact (Kd.S_reads' HO_9.out).2.2 | (with_reducible refine Kd.C_alloc ?_ _) | (with_reducible refine Kd.C_drewN ?_ _) | (with_reducible refine Kd.C_drew ?_))); (case side2 => exact (Kd.S_reads' HO_9.out).2.1); (case side3 => repeat (first | exact (Kd.S_reads' HO_7.out).2.2 | (with_reducible refine Kd.C_alloc ?_ _) | (with_reducible refine Kd.C_drewN ?_ _) | (with_reducible refine Kd.C_drew ?_))); (case side4 => exact (Kd.S_reads' HO_7.out).2.1); rintro e w26 ⟨rfl, hb⟩; have n0_ := Aside0.mk (Kd.S_below (by (with_reducible repeat (first | apply Kd.S_alloc | apply Kd.S_drewN | apply Kd.S_drew)); exact HO_7.out) hb); have n1_ := Aside0.mk (Kd.S_below (by (with_reducible repeat (first | apply Kd.S_alloc | apply Kd.S_drewN | apply Kd.S_drew)); exact HO_9.out) hb); have n2_ := Aside0.mk (Kd.R_below (by (with_reducible repeat (first | apply Kd.R_alloc | apply Kd.R_drewN | apply Kd.R_drew)); exact HO215.out) hb); have n3_ := Aside0.mk (below_step (by repeat (first | (with_reducible first | exact HB.out | apply below_alloc | apply pw_below_drewN | apply below_drew1) | exact HB.out)) hb); clear HO_7; clear HO_9; clear HO215; clear HB; have HO_7 := n0_; have HO_9 := n1_; have HO215 := n2_; have HB := n3_; clear n0_ n1_ n2_ n3_; (try clear hb); (try clear hb2); (try clear hk); (try clear hi)))
                  go_meet
                  case rel => exact ⟨_, (!t218), (by first | rfl | (simp; done) | (simp [*]; done)), H', ⟨by have := HJ5.out; first | omega | exact Nat.le_refl _⟩, ⟨by (with_reducible repeat (first | apply Kd.S_alloc | apply Kd.S_drewN | apply Kd.S_drew)); exact HO_7.out⟩, ⟨by (with_reducible repeat (first | apply Kd.S_alloc | apply Kd.S_drewN | apply Kd.S_drew)); exact HO_9.out⟩, ⟨by (with_reducible repeat (first | apply Kd.R_alloc | apply Kd.R_drewN | apply Kd.R_drew)); exact HO215.out⟩, ⟨by repeat (first | (with_reducible first | exact HB.out | apply below_alloc | apply pw_below_drewN | apply below_drew1) | exact HB.out)⟩⟩
                · rw [if_neg c22] at H
                  have c22b0 : ((t213.length : Int) == 0) = false := beq_eq_false_iff_ne.mpr c22
                  have c22b1 : ((t213.length : Int) != 0) = true := bne_iff_ne.mpr c22
                  have c22b2 : ¬ (t213 = []) := fun h_ => c22 (by rw [h_]; rfl)
                  by_cases c27 : t216 ≥ (wrap64 (Int.tmod (IntKind.u64.wrap (a1)) 2000))
                  · rw [if_pos c27] at H
                    have c27b0 : decide ((wrap64 (Int.tmod (IntKind.u64.wrap (a1)) 2000)) ≤ t216) = true := decide_eq_true c27
                    clear c27
                    replace H := Option.bind_eq_some_iff.mp H
                    obtain ⟨t219, A280, H⟩ := H
                    replace H : (frisketlaw11_FillEnds.j1 kj5 t205 t208 t213 (!t219)) = some r := H
                    have A28 := Aside0.mk A280
                    clear A280
                    have H' := Aside0.mk H
                    clear H
                    obtain ⟨Ao29, co29, eo29⟩ := Kd.R_slice HO215.out
                    subst eo29
                    obtain ⟨Ao30, co30, eo30⟩ := Kd.S_slice HO_9.out
                    subst eo30
                    go_wp2_with (first | (go_at_call 13; (with_reducible refine (frisketref08_Width.calls kj5 _ _ t208 t217 _ ?side1 ?side2 A20.out).mono ?_); (case side1 => repeat (first | exact (Kd.S_reads' HO_9.out).2.2 | (with_reducible refine Kd.C_alloc ?_ _) | (with_reducible refine Kd.C_drewN ?_ _) | (with_reducible refine Kd.C_drew ?_))); (case side2 => exact (Kd.S_reads' HO_9.out).2.1); rintro e w' ⟨rfl, ⟨nd, rfl⟩⟩) | (go_at_call 14; (with_reducible refine (frisketref08_Same.calls kj5 _ _ t208 _ _ t205 t219 _ ?side1 ?side2 ?side3 ?side4 A28.out).mono ?_); (case side1 => repeat (first | exact (Kd.S_reads' HO_9.out).2.2 | (with_reducible refine Kd.C_alloc ?_ _) | (with_reducible refine Kd.C_drewN ?_ _) | (with_reducible refine Kd.C_drew ?_))); (case side2 => exact (Kd.S_reads' HO_9.out).2.1); (case side3 => repeat (first | exact (Kd.S_reads' HO_7.out).2.2 | (with_reducible refine Kd.C_alloc ?_ _) | (with_reducible refine Kd.C_drewN ?_ _) | (with_reducible refine Kd.C_drew ?_))); (case side4 => exact (Kd.S_reads' HO_7.out).2.1); rintro e w31 ⟨rfl, hb⟩; have n0_ := Aside0.mk (Kd.S_below (by (with_reducible repeat (first | apply Kd.S_alloc | apply Kd.S_drewN | apply Kd.S_drew)); exact HO_7.out) hb); have n1_ := Aside0.mk (Kd.S_below (by (with_reducible repeat (first | apply Kd.S_alloc | apply Kd.S_drewN | apply Kd.S_drew)); exact HO_9.out) hb); have n2_ := Aside0.mk (Kd.R_below (by (with_reducible repeat (first | apply Kd.R_alloc | apply Kd.R_drewN | apply Kd.R_drew)); exact HO215.out) hb); have n3_ := Aside0.mk (below_step (by repeat (first | (with_reducible first | exact HB.out | apply below_alloc | apply pw_below_drewN | apply below_drew1) | exact HB.out)) hb); clear HO_7; clear HO_9; clear HO215; clear HB; have HO_7 := n0_; have HO_9 := n1_; have HO215 := n2_; have HB := n3_; clear n0_ n1_ n2_ n3_; (try clear hb); (try clear hb2); (try clear hk); (try clear hi)))
                    go_meet
                    case rel => exact ⟨_, (!t219), (by first | rfl | (simp; done) | (simp [*]; done)), H', ⟨by have := HJ5.out; first | omega | exact Nat.le_refl _⟩, ⟨by (with_reducible repeat (first | apply Kd.S_alloc | apply Kd.S_drewN | apply Kd.S_drew)); exact HO_7.out⟩, ⟨by (with_reducible repeat (first | apply Kd.S_alloc | apply Kd.S_drewN | apply Kd.S_drew)); exact HO_9.out⟩, ⟨by (with_reducible repeat (first | apply Kd.R_alloc | apply Kd.R_drewN | apply Kd.R_drew)); exact HO215.out⟩, ⟨by repeat (first | (with_reducible first | exact HB.out | apply below_alloc | apply pw_below_drewN | apply below_drew1) | exact HB.out)⟩⟩
                  · rw [if_neg c27] at H
                    have c27b0 : decide ((wrap64 (Int.tmod (IntKind.u64.wrap (a1)) 2000)) ≤ t216) = false := decide_eq_false c27
                    clear c27
                    have H' := Aside0.mk H
                    clear H
                    obtain ⟨Ao32, co32, eo32⟩ := Kd.R_slice HO215.out
                    subst eo32
                    obtain ⟨Ao33, co33, eo33⟩ := Kd.S_slice HO_9.out
                    subst eo33
                    go_wp2_with (first | (go_at_call 13; (with_reducible refine (frisketref08_Width.calls kj5 _ _ t208 t217 _ ?side1 ?side2 A20.out).mono ?_); (case side1 => repeat (first | exact (Kd.S_reads' HO_9.out).2.2 | (with_reducible refine Kd.C_alloc ?_ _) | (with_reducible refine Kd.C_drewN ?_ _) | (with_reducible refine Kd.C_drew ?_))); (case side2 => exact (Kd.S_reads' HO_9.out).2.1); rintro e w' ⟨rfl, ⟨nd, rfl⟩⟩))
                    go_meet
                    case rel => exact ⟨_, (false), (by first | rfl | (simp; done) | (simp [*]; done)), H', ⟨by have := HJ5.out; first | omega | exact Nat.le_refl _⟩, ⟨by (with_reducible repeat (first | apply Kd.S_alloc | apply Kd.S_drewN | apply Kd.S_drew)); exact HO_7.out⟩, ⟨by (with_reducible repeat (first | apply Kd.S_alloc | apply Kd.S_drewN | apply Kd.S_drew)); exact HO_9.out⟩, ⟨by (with_reducible repeat (first | apply Kd.R_alloc | apply Kd.R_drewN | apply Kd.R_drew)); exact HO215.out⟩, ⟨by repeat (first | (with_reducible first | exact HB.out | apply below_alloc | apply pw_below_drewN | apply below_drew1) | exact HB.out)⟩⟩
              · rw [if_neg c21] at H
                have c21b0 : (t217 == (wrap64 (Int.tmod (IntKind.u64.wrap (a1)) 2000))) = false := beq_eq_false_iff_ne.mpr c21
                have c21b1 : (t217 != (wrap64 (Int.tmod (IntKind.u64.wrap (a1)) 2000))) = true := bne_iff_ne.mpr c21
                have H' := Aside0.mk H
                clear H
                obtain ⟨Ao34, co34, eo34⟩ := Kd.R_slice HO215.out
                subst eo34
                obtain ⟨Ao35, co35, eo35⟩ := Kd.S_slice HO_9.out
                subst eo35
                go_wp2_with (first | (go_at_call 13; (with_reducible refine (frisketref08_Width.calls kj5 _ _ t208 t217 _ ?side1 ?side2 A20.out).mono ?_); (case side1 => repeat (first | exact (Kd.S_reads' HO_9.out).2.2 | (with_reducible refine Kd.C_alloc ?_ _) | (with_reducible refine Kd.C_drewN ?_ _) | (with_reducible refine Kd.C_drew ?_))); (case side2 => exact (Kd.S_reads' HO_9.out).2.1); rintro e w' ⟨rfl, ⟨nd, rfl⟩⟩))
                go_meet
                case rel => exact ⟨_, (true), (by first | rfl | (simp; done) | (simp [*]; done)), H', ⟨by have := HJ5.out; first | omega | exact Nat.le_refl _⟩, ⟨by (with_reducible repeat (first | apply Kd.S_alloc | apply Kd.S_drewN | apply Kd.S_drew)); exact HO_7.out⟩, ⟨by (with_reducible repeat (first | apply Kd.S_alloc | apply Kd.S_drewN | apply Kd.S_drew)); exact HO_9.out⟩, ⟨by (with_reducible repeat (first | apply Kd.R_alloc | apply Kd.R_drewN | apply Kd.R_drew)); exact HO215.out⟩, ⟨by repeat (first | (with_reducible first | exact HB.out | apply below_alloc | apply pw_below_drewN | apply below_drew1) | exact HB.out)⟩⟩
            · rw [if_neg c19] at H
              have c19b0 : decide (t216 < (wrap64 (Int.tmod (IntKind.u64.wrap (a1)) 2000))) = false := decide_eq_false c19
              clear c19
              by_cases c36 : (t213.length : Int) = 0
              · rw [if_pos c36] at H
                have c36b0 : ((t213.length : Int) == 0) = true := beq_iff_eq.mpr c36
                have c36b1 : ((t213.length : Int) != 0) = false := bne_eq_false_iff_eq.mpr c36
                clear c36
                replace H := Option.bind_eq_some_iff.mp H
                obtain ⟨t220, A370, H⟩ := H
                replace H : (frisketlaw11_FillEnds.j1 kj5 t205 t208 t213 (!t220)) = some r := H
                have A37 := Aside0.mk A370
                clear A370
                have H' := Aside0.mk H
                clear H
                obtain ⟨Ao38, co38, eo38⟩ := Kd.R_slice HO215.out
                subst eo38
                obtain ⟨Ao39, co39, eo39⟩ := Kd.S_slice HO_9.out
                subst eo39
                go_wp2_with (first | (go_at_call 14; (with_reducible refine (frisketref08_Same.calls kj5 _ _ t208 _ _ t205 t220 _ ?side1 ?side2 ?side3 ?side4 A37.out).mono ?_); (case side1 => repeat (first | exact (Kd.S_reads' HO_9.out).2.2 | (with_reducible refine Kd.C_alloc ?_ _) | (with_reducible refine Kd.C_drewN ?_ _) | (with_reducible refine Kd.C_drew ?_))); (case side2 => exact (Kd.S_reads' HO_9.out).2.1); (case side3 => repeat (first | exact (Kd.S_reads' HO_7.out).2.2 | (with_reducible refine Kd.C_alloc ?_ _) | (with_reducible refine Kd.C_drewN ?_ _) | (with_reducible refine Kd.C_drew ?_))); (case side4 => exact (Kd.S_reads' HO_7.out).2.1); rintro e w40 ⟨rfl, hb⟩; have n0_ := Aside0.mk (Kd.S_below (by (with_reducible repeat (first | apply Kd.S_alloc | apply Kd.S_drewN | apply Kd.S_drew)); exact HO_7.out) hb); have n1_ := Aside0.mk (Kd.S_below (by (with_reducible repeat (first | apply Kd.S_alloc | apply Kd.S_drewN | apply Kd.S_drew)); exact HO_9.out) hb); have n2_ := Aside0.mk (Kd.R_below (by (with_reducible repeat (first | apply Kd.R_alloc | apply Kd.R_drewN | apply Kd.R_drew)); exact HO215.out) hb); have n3_ := Aside0.mk (below_step (by repeat (first | (with_reducible first | exact HB.out | apply below_alloc | apply pw_below_drewN | apply below_drew1) | exact HB.out)) hb); clear HO_7; clear HO_9; clear HO215; clear HB; have HO_7 := n0_; have HO_9 := n1_; have HO215 := n2_; have HB := n3_; clear n0_ n1_ n2_ n3_; (try clear hb); (try clear hb2); (try clear hk); (try clear hi)))
                go_meet
                case rel => exact ⟨_, (!t220), (by first | rfl | (simp; done) | (simp [*]; done)), H', ⟨by have := HJ5.out; first | omega | exact Nat.le_refl _⟩, ⟨by (with_reducible repeat (first | apply Kd.S_alloc | apply Kd.S_drewN | apply Kd.S_drew)); exact HO_7.out⟩, ⟨by (with_reducible repeat (first | apply Kd.S_alloc | apply Kd.S_drewN | apply Kd.S_drew)); exact HO_9.out⟩, ⟨by (with_reducible repeat (first | apply Kd.R_alloc | apply Kd.R_drewN | apply Kd.R_drew)); exact HO215.out⟩, ⟨by repeat (first | (with_reducible first | exact HB.out | apply below_alloc | apply pw_below_drewN | apply below_drew1) | exact HB.out)⟩⟩
              · rw [if_neg c36] at H
                have c36b0 : ((t213.length : Int) == 0) = false := beq_eq_false_iff_ne.mpr c36
                have c36b1 : ((t213.length : Int) != 0) = true := bne_iff_ne.mpr c36
                have c36b2 : ¬ (t213 = []) := fun h_ => c36 (by rw [h_]; rfl)
                by_cases c41 : t216 ≥ (wrap64 (Int.tmod (IntKind.u64.wrap (a1)) 2000))
                · rw [if_pos c41] at H
                  have c41b0 : decide ((wrap64 (Int.tmod (IntKind.u64.wrap (a1)) 2000)) ≤ t216) = true := decide_eq_true c41
                  clear c41
                  replace H := Option.bind_eq_some_iff.mp H
                  obtain ⟨t221, A420, H⟩ := H
                  replace H : (frisketlaw11_FillEnds.j1 kj5 t205 t208 t213 (!t221)) = some r := H
                  have A42 := Aside0.mk A420
                  clear A420
                  have H' := Aside0.mk H
                  clear H
                  obtain ⟨Ao43, co43, eo43⟩ := Kd.R_slice HO215.out
                  subst eo43
                  obtain ⟨Ao44, co44, eo44⟩ := Kd.S_slice HO_9.out
                  subst eo44
                  go_wp2_with (first | (go_at_call 14; (with_reducible refine (frisketref08_Same.calls kj5 _ _ t208 _ _ t205 t221 _ ?side1 ?side2 ?side3 ?side4 A42.out).mono ?_); (case side1 => repeat (first | exact (Kd.S_reads' HO_9.out).2.2 | (with_reducible refine Kd.C_alloc ?_ _) | (with_reducible refine Kd.C_drewN ?_ _) | (with_reducible refine Kd.C_drew ?_))); (case side2 => exact (Kd.S_reads' HO_9.out).2.1); (case side3 => repeat (first | exact (Kd.S_reads' HO_7.out).2.2 | (with_reducible refine Kd.C_alloc ?_ _) | (with_reducible refine Kd.C_drewN ?_ _) | (with_reducible refine Kd.C_drew ?_))); (case side4 => exact (Kd.S_reads' HO_7.out).2.1); rintro e w45 ⟨rfl, hb⟩; have n0_ := Aside0.mk (Kd.S_below (by (with_reducible repeat (first | apply Kd.S_alloc | apply Kd.S_drewN | apply Kd.S_drew)); exact HO_7.out) hb); have n1_ := Aside0.mk (Kd.S_below (by (with_reducible repeat (first | apply Kd.S_alloc | apply Kd.S_drewN | apply Kd.S_drew)); exact HO_9.out) hb); have n2_ := Aside0.mk (Kd.R_below (by (with_reducible repeat (first | apply Kd.R_alloc | apply Kd.R_drewN | apply Kd.R_drew)); exact HO215.out) hb); have n3_ := Aside0.mk (below_step (by repeat (first | (with_reducible first | exact HB.out | apply below_alloc | apply pw_below_drewN | apply below_drew1) | exact HB.out)) hb); clear HO_7; clear HO_9; clear HO215; clear HB; have HO_7 := n0_; have HO_9 := n1_; have HO215 := n2_; have HB := n3_; clear n0_ n1_ n2_ n3_; (try clear hb); (try clear hb2); (try clear hk); (try clear hi)))
                  go_meet
                  case rel => exact ⟨_, (!t221), (by first | rfl | (simp; done) | (simp [*]; done)), H', ⟨by have := HJ5.out; first | omega | exact Nat.le_refl _⟩, ⟨by (with_reducible repeat (first | apply Kd.S_alloc | apply Kd.S_drewN | apply Kd.S_drew)); exact HO_7.out⟩, ⟨by (with_reducible repeat (first | apply Kd.S_alloc | apply Kd.S_drewN | apply Kd.S_drew)); exact HO_9.out⟩, ⟨by (with_reducible repeat (first | apply Kd.R_alloc | apply Kd.R_drewN | apply Kd.R_drew)); exact HO215.out⟩, ⟨by repeat (first | (with_reducible first | exact HB.out | apply below_alloc | apply pw_below_drewN | apply below_drew1) | exact HB.out)⟩⟩
                · rw [if_neg c41] at H
                  have c41b0 : decide ((wrap64 (Int.tmod (IntKind.u64.wrap (a1)) 2000)) ≤ t216) = false := decide_eq_false c41
                  clear c41
                  have H' := Aside0.mk H
                  clear H
                  obtain ⟨Ao46, co46, eo46⟩ := Kd.R_slice HO215.out
                  subst eo46
                  go_wp2
                  go_meet
                  case rel => exact ⟨_, (false), (by first | rfl | (simp; done) | (simp [*]; done)), H', ⟨by have := HJ5.out; first | omega | exact Nat.le_refl _⟩, ⟨by (with_reducible repeat (first | apply Kd.S_alloc | apply Kd.S_drewN | apply Kd.S_drew)); exact HO_7.out⟩, ⟨by (with_reducible repeat (first | apply Kd.S_alloc | apply Kd.S_drewN | apply Kd.S_drew)); exact HO_9.out⟩, ⟨by (with_reducible repeat (first | apply Kd.R_alloc | apply Kd.R_drewN | apply Kd.R_drew)); exact HO215.out⟩, ⟨by repeat (first | (with_reducible first | exact HB.out | apply below_alloc | apply pw_below_drewN | apply below_drew1) | exact HB.out)⟩⟩
          · rw [if_neg c18] at H
            have c18b0 : decide (0 < (t213.length : Int)) = false := decide_eq_false c18
            have c18b1 : decide (0 < t213.length) = false := decide_eq_false (by omega)
            clear c18
            (first | rw [c18b0] | (simp only [i64_w, i32_w]; rw [c18b0]) | skip)
            by_cases c47 : (t213.length : Int) = 0
            · rw [if_pos c47] at H
              have c47b0 : ((t213.length : Int) == 0) = true := beq_iff_eq.mpr c47
              have c47b1 : ((t213.length : Int) != 0) = false := bne_eq_false_iff_eq.mpr c47
              clear c47
              replace H := Option.bind_eq_some_iff.mp H
              obtain ⟨t222, A480, H⟩ := H
              replace H : (frisketlaw11_FillEnds.j1 kj5 t205 t208 t213 (!t222)) = some r := H
              have A48 := Aside0.mk A480
              clear A480
              have H' := Aside0.mk H
              clear H
              obtain ⟨Ao49, co49, eo49⟩ := Kd.R_slice HO215.out
              subst eo49
              obtain ⟨Ao50, co50, eo50⟩ := Kd.S_slice HO_9.out
              subst eo50
              go_wp2_with (first | (go_at_call 14; (with_reducible refine (frisketref08_Same.calls kj5 _ _ t208 _ _ t205 t222 _ ?side1 ?side2 ?side3 ?side4 A48.out).mono ?_); (case side1 => repeat (first | exact (Kd.S_reads' HO_9.out).2.2 | (with_reducible refine Kd.C_alloc ?_ _) | (with_reducible refine Kd.C_drewN ?_ _) | (with_reducible refine Kd.C_drew ?_))); (case side2 => exact (Kd.S_reads' HO_9.out).2.1); (case side3 => repeat (first | exact (Kd.S_reads' HO_7.out).2.2 | (with_reducible refine Kd.C_alloc ?_ _) | (with_reducible refine Kd.C_drewN ?_ _) | (with_reducible refine Kd.C_drew ?_))); (case side4 => exact (Kd.S_reads' HO_7.out).2.1); rintro e w51 ⟨rfl, hb⟩; have n0_ := Aside0.mk (Kd.S_below (by (with_reducible repeat (first | apply Kd.S_alloc | apply Kd.S_drewN | apply Kd.S_drew)); exact HO_7.out) hb); have n1_ := Aside0.mk (Kd.S_below (by (with_reducible repeat (first | apply Kd.S_alloc | apply Kd.S_drewN | apply Kd.S_drew)); exact HO_9.out) hb); have n2_ := Aside0.mk (Kd.R_below (by (with_reducible repeat (first | apply Kd.R_alloc | apply Kd.R_drewN | apply Kd.R_drew)); exact HO215.out) hb); have n3_ := Aside0.mk (below_step (by repeat (first | (with_reducible first | exact HB.out | apply below_alloc | apply pw_below_drewN | apply below_drew1) | exact HB.out)) hb); clear HO_7; clear HO_9; clear HO215; clear HB; have HO_7 := n0_; have HO_9 := n1_; have HO215 := n2_; have HB := n3_; clear n0_ n1_ n2_ n3_; (try clear hb); (try clear hb2); (try clear hk); (try clear hi)))
              go_meet
              case rel => exact ⟨_, (!t222), (by first | rfl | (simp; done) | (simp [*]; done)), H', ⟨by have := HJ5.out; first | omega | exact Nat.le_refl _⟩, ⟨by (with_reducible repeat (first | apply Kd.S_alloc | apply Kd.S_drewN | apply Kd.S_drew)); exact HO_7.out⟩, ⟨by (with_reducible repeat (first | apply Kd.S_alloc | apply Kd.S_drewN | apply Kd.S_drew)); exact HO_9.out⟩, ⟨by (with_reducible repeat (first | apply Kd.R_alloc | apply Kd.R_drewN | apply Kd.R_drew)); exact HO215.out⟩, ⟨by repeat (first | (with_reducible first | exact HB.out | apply below_alloc | apply pw_below_drewN | apply below_drew1) | exact HB.out)⟩⟩
            · rw [if_neg c47] at H
              have c47b0 : ((t213.length : Int) == 0) = false := beq_eq_false_iff_ne.mpr c47
              have c47b1 : ((t213.length : Int) != 0) = true := bne_iff_ne.mpr c47
              have c47b2 : ¬ (t213 = []) := fun h_ => c47 (by rw [h_]; rfl)
              by_cases c52 : t216 ≥ (wrap64 (Int.tmod (IntKind.u64.wrap (a1)) 2000))
              · rw [if_pos c52] at H
                have c52b0 : decide ((wrap64 (Int.tmod (IntKind.u64.wrap (a1)) 2000)) ≤ t216) = true := decide_eq_true c52
                clear c52
                replace H := Option.bind_eq_some_iff.mp H
                obtain ⟨t223, A530, H⟩ := H
                replace H : (frisketlaw11_FillEnds.j1 kj5 t205 t208 t213 (!t223)) = some r := H
                have A53 := Aside0.mk A530
                clear A530
                have H' := Aside0.mk H
                clear H
                obtain ⟨Ao54, co54, eo54⟩ := Kd.R_slice HO215.out
                subst eo54
                obtain ⟨Ao55, co55, eo55⟩ := Kd.S_slice HO_9.out
                subst eo55
                go_wp2_with (first | (go_at_call 14; (with_reducible refine (frisketref08_Same.calls kj5 _ _ t208 _ _ t205 t223 _ ?side1 ?side2 ?side3 ?side4 A53.out).mono ?_); (case side1 => repeat (first | exact (Kd.S_reads' HO_9.out).2.2 | (with_reducible refine Kd.C_alloc ?_ _) | (with_reducible refine Kd.C_drewN ?_ _) | (with_reducible refine Kd.C_drew ?_))); (case side2 => exact (Kd.S_reads' HO_9.out).2.1); (case side3 => repeat (first | exact (Kd.S_reads' HO_7.out).2.2 | (with_reducible refine Kd.C_alloc ?_ _) | (with_reducible refine Kd.C_drewN ?_ _) | (with_reducible refine Kd.C_drew ?_))); (case side4 => exact (Kd.S_reads' HO_7.out).2.1); rintro e w56 ⟨rfl, hb⟩; have n0_ := Aside0.mk (Kd.S_below (by (with_reducible repeat (first | apply Kd.S_alloc | apply Kd.S_drewN | apply Kd.S_drew)); exact HO_7.out) hb); have n1_ := Aside0.mk (Kd.S_below (by (with_reducible repeat (first | apply Kd.S_alloc | apply Kd.S_drewN | apply Kd.S_drew)); exact HO_9.out) hb); have n2_ := Aside0.mk (Kd.R_below (by (with_reducible repeat (first | apply Kd.R_alloc | apply Kd.R_drewN | apply Kd.R_drew)); exact HO215.out) hb); have n3_ := Aside0.mk (below_step (by repeat (first | (with_reducible first | exact HB.out | apply below_alloc | apply pw_below_drewN | apply below_drew1) | exact HB.out)) hb); clear HO_7; clear HO_9; clear HO215; clear HB; have HO_7 := n0_; have HO_9 := n1_; have HO215 := n2_; have HB := n3_; clear n0_ n1_ n2_ n3_; (try clear hb); (try clear hb2); (try clear hk); (try clear hi)))
                go_meet
                case rel => exact ⟨_, (!t223), (by first | rfl | (simp; done) | (simp [*]; done)), H', ⟨by have := HJ5.out; first | omega | exact Nat.le_refl _⟩, ⟨by (with_reducible repeat (first | apply Kd.S_alloc | apply Kd.S_drewN | apply Kd.S_drew)); exact HO_7.out⟩, ⟨by (with_reducible repeat (first | apply Kd.S_alloc | apply Kd.S_drewN | apply Kd.S_drew)); exact HO_9.out⟩, ⟨by (with_reducible repeat (first | apply Kd.R_alloc | apply Kd.R_drewN | apply Kd.R_drew)); exact HO215.out⟩, ⟨by repeat (first | (with_reducible first | exact HB.out | apply below_alloc | apply pw_below_drewN | apply below_drew1) | exact HB.out)⟩⟩
              · rw [if_neg c52] at H
                have c52b0 : decide ((wrap64 (Int.tmod (IntKind.u64.wrap (a1)) 2000)) ≤ t216) = false := decide_eq_false c52
                clear c52
                have H' := Aside0.mk H
                clear H
                obtain ⟨Ao57, co57, eo57⟩ := Kd.R_slice HO215.out
                subst eo57
                go_wp2
                go_meet
                case rel => exact ⟨_, (false), (by first | rfl | (simp; done) | (simp [*]; done)), H', ⟨by have := HJ5.out; first | omega | exact Nat.le_refl _⟩, ⟨by (with_reducible repeat (first | apply Kd.S_alloc | apply Kd.S_drewN | apply Kd.S_drew)); exact HO_7.out⟩, ⟨by (with_reducible repeat (first | apply Kd.S_alloc | apply Kd.S_drewN | apply Kd.S_drew)); exact HO_9.out⟩, ⟨by (with_reducible repeat (first | apply Kd.R_alloc | apply Kd.R_drewN | apply Kd.R_drew)); exact HO215.out⟩, ⟨by repeat (first | (with_reducible first | exact HB.out | apply below_alloc | apply pw_below_drewN | apply below_drew1) | exact HB.out)⟩⟩
        case rest =>
          clear HC16
          try clear c1
          try clear c2
          try clear p2
          try clear c3
          try clear c4
          try clear c5
          try clear p6
          try clear c10
          try clear c10b0
          try clear c10b1
          try clear c11
          try clear c11b0
          try clear c11b1
          try clear c12
          try clear c13
          try clear c18
          try clear c18b0
          try clear c18b1
          try clear c19
          try clear c19b0
          try clear c21
          try clear c21b0
          try clear c21b1
          try clear c22
          try clear c22b0
          try clear c22b1
          try clear c22b2
          try clear c27
          try clear c27b0
          try clear c36
          try clear c36b0
          try clear c36b1
          try clear c36b2
          try clear c41
          try clear c41b0
          try clear c47
          try clear c47b0
          try clear c47b1
          try clear c47b2
          try clear c52
          try clear c52b0
          try clear p2
          try clear p6
          obtain ⟨kq, x78_15, rfl, HA, HJ15, HO_7, HO_9, HO_12, HB⟩ := hcut
          cases kq with
          | zero => exact absurd HA.out (by simp [frisketlaw11_FillEnds.j1])
          | succ kj15 =>
            have H := HA.out
            clear HA
            simp only [frisketlaw11_FillEnds.j1] at H
            by_cases c58 : x78_15 = true
            · subst c58
              have H1 : (some false) = some r := by rw [if_pos rfl] at H; exact H
              clear H
              have H := H1
              clear H1
              obtain rfl := Option.some.inj H
              go_wp2
              go_ret
              exact ⟨by first | rfl | (simp [errW_none, errW_some] <;> rfl) | (simp [*, errW_none, errW_some] <;> rfl), by repeat (first | (with_reducible first | exact HB.out | apply below_alloc | apply pw_below_drewN | apply below_drew1) | exact HB.out)⟩
            · replace c58 := Bool.eq_false_iff.mpr c58
              subst c58
              have H1 : (frisketlaw11_FillEnds.l0 kj15 t205 t208 t213 1099511627776 0 0) = some r := by rw [if_neg (show ¬ (false = true) by decide)] at H; exact H
              clear H
              have H := H1
              clear H1
              have H' := Aside0.mk H
              clear H
              go_wp2
              go_loopg [14, 15, 16] kj15 (fun kq v14 v15 v16 w' => ∃ (x9_3 : List (S33)) (x14_3 : Int) (x15_3 : Int) (x16_3 : Int), v14 = .int .i64 x14_3 ∧ v15 = .int .i64 x15_3 ∧ v16 = .int .i64 x16_3 ∧ Aside0 (frisketlaw11_FillEnds.l0 kq t205 x9_3 t213 x14_3 x15_3 x16_3 = some r) ∧ Aside0 (kq ≤ kj15) ∧ Aside0 (Kd.S k33 33 w' w.heap.size (fun k_ => some k_ ≠ (v211 : Value).ownBlock ∧ some k_ ≠ (v214 : Value).ownBlock) (.slice Ao8 t205.length co8) t205) ∧ Aside0 (Kd.S k33 33 w' w.heap.size (fun k_ => some k_ ≠ ((.slice Ao8 t205.length co8) : Value).ownBlock ∧ some k_ ≠ (v214 : Value).ownBlock) v211 x9_3) ∧ Aside0 (Kd.R (Kd.int .i64) 3 w' w.heap.size (fun _ => True) v214 t213) ∧ Aside0 (Below w.heap.size w w'))
              case atStart => exact ⟨(t208), (1099511627776), (0), (0), (by first | rfl | (simp; done) | (simp [*]; done)), (by first | rfl | (simp; done) | (simp [*]; done)), (by first | rfl | (simp; done) | (simp [*]; done)), H', ⟨Nat.le_refl _⟩, ⟨by (with_reducible repeat (first | apply Kd.S_alloc | apply Kd.S_drewN | apply Kd.S_drew)); exact HO_7.out⟩, ⟨by (with_reducible repeat (first | apply Kd.S_alloc | apply Kd.S_drewN | apply Kd.S_drew)); exact HO_9.out⟩, ⟨by (with_reducible repeat (first | apply Kd.R_alloc | apply Kd.R_drewN | apply Kd.R_drew)); exact HO_12.out⟩, ⟨by repeat (first | (with_reducible first | exact HB.out | apply below_alloc | apply pw_below_drewN | apply below_drew1) | exact HB.out)⟩⟩
              case round =>
                clear H'
                try clear c1
                try clear c2
                try clear p2
                try clear c3
                try clear c4
                try clear c5
                try clear p6
                try clear c10
                try clear c10b0
                try clear c10b1
                try clear c11
                try clear c11b0
                try clear c11b1
                try clear c12
                try clear c13
                try clear c18
                try clear c18b0
                try clear c18b1
                try clear c19
                try clear c19b0
                try clear c21
                try clear c21b0
                try clear c21b1
                try clear c22
                try clear c22b0
                try clear c22b1
                try clear c22b2
                try clear c27
                try clear c27b0
                try clear c36
                try clear c36b0
                try clear c36b1
                try clear c36b2
                try clear c41
                try clear c41b0
                try clear c47
                try clear c47b0
                try clear c47b1
                try clear c47b2
                try clear c52
                try clear c52b0
                try clear c58
                try clear p2
                try clear p6
                obtain ⟨x9_3, x14_3, x15_3, x16_3, rfl, rfl, rfl, HA, HK3, HO_7, HO_9, HO_12, HB⟩ := hrel
                cases gk with
                | zero => exact absurd HA.out (by simp [frisketlaw11_FillEnds.l0])
                | succ k3 =>
                  have H := HA.out
                  clear HA
                  simp only [frisketlaw11_FillEnds.l0] at H
                  by_cases c59 : x16_3 < (t213.length : Int)
                  · rw [if_pos c59] at H
                    have c59b0 : decide (x16_3 < (t213.length : Int)) = true := decide_eq_true c59
                    clear c59
                    by_cases c60 : 0 ≤ x16_3
                    · rw [if_pos c60] at H
                      have c60b0 : decide (0 ≤ x16_3) = true := decide_eq_true c60
                      clear c60
                      by_cases c61 : 0 ≤ (rd t213 x16_3)
                      · rw [if_pos c61] at H
                        have c61b0 : decide (0 ≤ (rd t213 x16_3)) = true := decide_eq_true c61
                        clear c61
                        by_cases c62 : (rd t213 x16_3) < (x9_3.length : Int)
                        · rw [if_pos c62] at H
                          have c62b0 : decide ((rd t213 x16_3) < (x9_3.length : Int)) = true := decide_eq_true c62
                          clear c62
                          by_cases c63 : (rd t213 x16_3) < (t205.length : Int)
                          · rw [if_pos c63] at H
                            have c63b0 : decide ((rd t213 x16_3) < (t205.length : Int)) = true := decide_eq_true c63
                            clear c63
                            obtain ⟨ji64, hji64⟩ : ∃ j_ : Int, (mn x14_3 (wrap64 (((rd_T33 x9_3 (rd t213 x16_3)).f1) - ((rd_T33 t205 (rd t213 x16_3)).f1)))) = j_ := ⟨_, rfl⟩
                            replace H : (frisketlaw11_FillEnds.l0 k3 t205 (x9_3.set ((rd t213 x16_3) : Int).toNat (⟨(rd_T33 x9_3 (rd t213 x16_3)).f0, (rd_T33 t205 (rd t213 x16_3)).f1, (rd_T33 x9_3 (rd t213 x16_3)).f2, (rd_T33 x9_3 (rd t213 x16_3)).f3, (rd_T33 x9_3 (rd t213 x16_3)).f4, (rd_T33 x9_3 (rd t213 x16_3)).f5, (rd_T33 x9_3 (rd t213 x16_3)).f6⟩ : S33)) t213 ji64 (mx x15_3 (wrap64 (((rd_T33 x9_3 (rd t213 x16_3)).f1) - ((rd_T33 t205 (rd t213 x16_3)).f1)))) (wrap64 (x16_3 + 1))) = some r := by first | (rw [hji64] at H; exact H) | (simp only [hji64] at H ⊢; exact H)
                            have hji64_ : (if (wrap64 (((rd_T33 x9_3 (rd t213 x16_3)).f1) - ((rd_T33 t205 (rd t213 x16_3)).f1))) < x14_3 then (wrap64 (((rd_T33 x9_3 (rd t213 x16_3)).f1) - ((rd_T33 t205 (rd t213 x16_3)).f1))) else x14_3) = ji64 := hji64
                            obtain ⟨ji65, hji65⟩ : ∃ j_ : Int, (mx x15_3 (wrap64 (((rd_T33 x9_3 (rd t213 x16_3)).f1) - ((rd_T33 t205 (rd t213 x16_3)).f1)))) = j_ := ⟨_, rfl⟩
                            replace H : (frisketlaw11_FillEnds.l0 k3 t205 (x9_3.set ((rd t213 x16_3) : Int).toNat (⟨(rd_T33 x9_3 (rd t213 x16_3)).f0, (rd_T33 t205 (rd t213 x16_3)).f1, (rd_T33 x9_3 (rd t213 x16_3)).f2, (rd_T33 x9_3 (rd t213 x16_3)).f3, (rd_T33 x9_3 (rd t213 x16_3)).f4, (rd_T33 x9_3 (rd t213 x16_3)).f5, (rd_T33 x9_3 (rd t213 x16_3)).f6⟩ : S33)) t213 ji64 ji65 (wrap64 (x16_3 + 1))) = some r := by first | (rw [hji65] at H; exact H) | (simp only [hji65] at H ⊢; exact H)
                            have hji65_ : (if x15_3 < (wrap64 (((rd_T33 x9_3 (rd t213 x16_3)).f1) - ((rd_T33 t205 (rd t213 x16_3)).f1))) then (wrap64 (((rd_T33 x9_3 (rd t213 x16_3)).f1) - ((rd_T33 t205 (rd t213 x16_3)).f1))) else x15_3) = ji65 := hji65
                            obtain ⟨y231, hy231⟩ : ∃ y_ : List (S33), y_ = (x9_3.set ((rd t213 x16_3) : Int).toNat (⟨(rd_T33 x9_3 (rd t213 x16_3)).f0, (rd_T33 t205 (rd t213 x16_3)).f1, (rd_T33 x9_3 (rd t213 x16_3)).f2, (rd_T33 x9_3 (rd t213 x16_3)).f3, (rd_T33 x9_3 (rd t213 x16_3)).f4, (rd_T33 x9_3 (rd t213 x16_3)).f5, (rd_T33 x9_3 (rd t213 x16_3)).f6⟩ : S33)) := ⟨_, rfl⟩
                            replace H : (frisketlaw11_FillEnds.l0 k3 t205 y231 t213 ji64 ji65 (wrap64 (x16_3 + 1))) = some r := by first | (rw [hy231]; with_reducible exact H) | (have H2_ := (Option.bind_some _ _).symm.trans H; rw [hy231]; with_reducible exact H2_) | (have H2_ := (Option.bind_some _ _).symm.trans H; with_reducible exact H2_) | with_reducible exact H | (rw [hy231]; exact H) | exact H
                            have Ny231 := Aside0.mk hy231
                            clear hy231
                            have H' := Aside0.mk H
                            clear H
                            obtain ⟨Ao67, co67, eo67⟩ := Kd.R_slice HO_12.out
                            subst eo67
                            try go_wp2
                            have n0_ := Aside0.mk (Kd.S_drew HO_7.out)
                            have n1_ := Aside0.mk (Kd.S_drew HO_9.out)
                            have n2_ := Aside0.mk (Kd.R_drew HO_12.out)
                            have n3_ := Aside0.mk (below_drew1 HB.out)
                            clear HO_7
                            clear HO_9
                            clear HO_12
                            clear HB
                            have HO_7 := n0_
                            have HO_9 := n1_
                            have HO_12 := n2_
                            have HB := n3_
                            clear n0_ n1_ n2_ n3_
                            have p224 : 0 ≤ (x16_3 : Int) := of_decide_eq_true (by first | (with_reducible assumption) | assumption)
                            have q224 : x16_3 < (t213.length : Int) := of_decide_eq_true (by first | (with_reducible assumption) | assumption)
                            obtain ⟨ad224, e224, hx224_0⟩ := Kd.at_int (Kd.R_reads' HO_12.out).2.2 x16_3 p224 q224
                            cases e224
                            replace p224 := eq_true p224
                            replace q224 := eq_true q224
                            obtain ⟨Ao69, co69, eo69⟩ := Kd.S_slice HO_9.out
                            (first | subst eo69 | (injection eo69 with f1_ f2_ f3_; have f4_ := f1_.symm; have f5_ := f3_.symm; clear f1_ f2_ f3_; subst f4_; subst f5_))
                            have p225 : 0 ≤ ((rd t213 x16_3) : Int) := of_decide_eq_true (by first | (with_reducible assumption) | assumption)
                            have q225 : (rd t213 x16_3) < (x9_3.length : Int) := of_decide_eq_true (by first | (with_reducible assumption) | assumption)
                            obtain ⟨ad225, A225_6, c225_6, e225, hx225_0, hx225_1, hx225_2, hx225_3, hx225_4, hx225_5, hx225_6, hl225_6, hi225_6⟩ := at_T33 (Kd.S_reads' HO_9.out).2.2 (rd t213 x16_3) p225 q225
                            cases e225
                            obtain ⟨ce225, hce225, hMe225, hcc225⟩ := Kd.S_get HO_9.out z33 (rd t213 x16_3) p225 (by first | exact q225 | exact of_decide_eq_true (by first | (with_reducible assumption) | assumption) | (have e_ := (Kd.S_reads' HO_9.out).1; omega))
                            obtain ⟨ve225_6, rfl, ge225_6⟩ := k33_openM hMe225
                            have hv225_6 := hcc225 6 _ rfl
                            rw [add_field _ _ 6 (by omega)] at hv225_6
                            replace hv225_6 := Option.some.inj (hv225_6.symm.trans hx225_6)
                            rw [hv225_6] at ge225_6
                            have HL225_6 := Aside0.mk (show Kd.R (Kd.int .i64) 3 _ _ _ _ ((rd_T33 x9_3 (rd t213 x16_3)).f6) from ge225_6)
                            clear hv225_6 ge225_6
                            clear hcc225 hce225
                            have HR225_6 := Aside0.mk hi225_6
                            have HC225_6 := Aside0.mk hl225_6
                            clear hi225_6 hl225_6
                            replace p225 := eq_true p225
                            replace q225 := eq_true q225
                            have p226 : 0 ≤ (x16_3 : Int) := of_decide_eq_true (by first | (with_reducible assumption) | assumption)
                            have q226 : x16_3 < (t213.length : Int) := of_decide_eq_true (by first | (with_reducible assumption) | assumption)
                            obtain ⟨ad226, e226, hx226_0⟩ := Kd.at_int (Kd.R_reads' HO_12.out).2.2 x16_3 p226 q226
                            obtain rfl : ad224 = ad226 := (by injection e226)
                            replace p226 := eq_true p226
                            replace q226 := eq_true q226
                            have p227 : 0 ≤ ((rd t213 x16_3) : Int) := of_decide_eq_true (by first | (with_reducible assumption) | assumption)
                            have q227 : (rd t213 x16_3) < (t205.length : Int) := of_decide_eq_true (by first | (with_reducible assumption) | assumption)
                            obtain ⟨ad227, A227_6, c227_6, e227, hx227_0, hx227_1, hx227_2, hx227_3, hx227_4, hx227_5, hx227_6, hl227_6, hi227_6⟩ := at_T33 (Kd.S_reads' HO_7.out).2.2 (rd t213 x16_3) p227 q227
                            cases e227
                            obtain ⟨ce227, hce227, hMe227, hcc227⟩ := Kd.S_get HO_7.out z33 (rd t213 x16_3) p227 (by first | exact q227 | exact of_decide_eq_true (by first | (with_reducible assumption) | assumption) | (have e_ := (Kd.S_reads' HO_7.out).1; omega))
                            obtain ⟨ve227_6, rfl, ge227_6⟩ := k33_openM hMe227
                            have hv227_6 := hcc227 6 _ rfl
                            rw [add_field _ _ 6 (by omega)] at hv227_6
                            replace hv227_6 := Option.some.inj (hv227_6.symm.trans hx227_6)
                            rw [hv227_6] at ge227_6
                            have HL227_6 := Aside0.mk (show Kd.R (Kd.int .i64) 3 _ _ _ _ ((rd_T33 t205 (rd t213 x16_3)).f6) from ge227_6)
                            clear hv227_6 ge227_6
                            clear hcc227 hce227
                            have HR227_6 := Aside0.mk hi227_6
                            have HC227_6 := Aside0.mk hl227_6
                            clear hi227_6 hl227_6
                            replace p227 := eq_true p227
                            replace q227 := eq_true q227
                            refine start_ (n := 18) (S := fun w' => w'.cell? (ad224.add (x16_3).toNat) = some (.int .i64 (rd t213 x16_3)) ∧ w'.cell? (ad225.add (((rd t213 x16_3)).toNat * 7)) = some (.int .i64 ((rd_T33 x9_3 (rd t213 x16_3)).f0)) ∧ w'.cell? ⟨(ad225.add (((rd t213 x16_3)).toNat * 7)).block, (ad225.add (((rd t213 x16_3)).toNat * 7)).off + 1, none⟩ = some (.int .i64 ((rd_T33 x9_3 (rd t213 x16_3)).f1)) ∧ w'.cell? ⟨(ad225.add (((rd t213 x16_3)).toNat * 7)).block, (ad225.add (((rd t213 x16_3)).toNat * 7)).off + 2, none⟩ = some (.int .i64 ((rd_T33 x9_3 (rd t213 x16_3)).f2)) ∧ w'.cell? ⟨(ad225.add (((rd t213 x16_3)).toNat * 7)).block, (ad225.add (((rd t213 x16_3)).toNat * 7)).off + 3, none⟩ = some (.int .i64 ((rd_T33 x9_3 (rd t213 x16_3)).f3)) ∧ w'.cell? ⟨(ad225.add (((rd t213 x16_3)).toNat * 7)).block, (ad225.add (((rd t213 x16_3)).toNat * 7)).off + 4, none⟩ = some (.string ((rd_T33 x9_3 (rd t213 x16_3)).f4)) ∧ w'.cell? ⟨(ad225.add (((rd t213 x16_3)).toNat * 7)).block, (ad225.add (((rd t213 x16_3)).toNat * 7)).off + 5, none⟩ = some (.string ((rd_T33 x9_3 (rd t213 x16_3)).f5)) ∧ w'.cell? ⟨(ad225.add (((rd t213 x16_3)).toNat * 7)).block, (ad225.add (((rd t213 x16_3)).toNat * 7)).off + 6, none⟩ = some (.slice A225_6 ((rd_T33 x9_3 (rd t213 x16_3)).f6).length c225_6) ∧ w'.cell? (ad224.add (x16_3).toNat) = some (.int .i64 (rd t213 x16_3)) ∧ w'.cell? (ad227.add (((rd t213 x16_3)).toNat * 7)) = some (.int .i64 ((rd_T33 t205 (rd t213 x16_3)).f0)) ∧ w'.cell? ⟨(ad227.add (((rd t213 x16_3)).toNat * 7)).block, (ad227.add (((rd t213 x16_3)).toNat * 7)).off + 1, none⟩ = some (.int .i64 ((rd_T33 t205 (rd t213 x16_3)).f1)) ∧ w'.cell? ⟨(ad227.add (((rd t213 x16_3)).toNat * 7)).block, (ad227.add (((rd t213 x16_3)).toNat * 7)).off + 2, none⟩ = some (.int .i64 ((rd_T33 t205 (rd t213 x16_3)).f2)) ∧ w'.cell? ⟨(ad227.add (((rd t213 x16_3)).toNat * 7)).block, (ad227.add (((rd t213 x16_3)).toNat * 7)).off + 3, none⟩ = some (.int .i64 ((rd_T33 t205 (rd t213 x16_3)).f3)) ∧ w'.cell? ⟨(ad227.add (((rd t213 x16_3)).toNat * 7)).block, (ad227.add (((rd t213 x16_3)).toNat * 7)).off + 4, none⟩ = some (.string ((rd_T33 t205 (rd t213 x16_3)).f4)) ∧ w'.cell? ⟨(ad227.add (((rd t213 x16_3)).toNat * 7)).block, (ad227.add (((rd t213 x16_3)).toNat * 7)).off + 5, none⟩ = some (.string ((rd_T33 t205 (rd t213 x16_3)).f5)) ∧ w'.cell? ⟨(ad227.add (((rd t213 x16_3)).toNat * 7)).block, (ad227.add (((rd t213 x16_3)).toNat * 7)).off + 6, none⟩ = some (.slice A227_6 ((rd_T33 t205 (rd t213 x16_3)).f6).length c227_6)) (ds := []) #[false, false, false, false, false, false, false, false, false, false, false, false, false, false, false, false, false, false] (by kernel_rfl) rfl rfl ⟨hx224_0, hx225_0, hx225_1, hx225_2, hx225_3, hx225_4, hx225_5, hx225_6, hx226_0, hx227_0, hx227_1, hx227_2, hx227_3, hx227_4, hx227_5, hx227_6⟩ (fun hHeld => ?_); refine with_tabW frisketlaw11_FillEnds.tab14 frisketlaw11_FillEnds.bits14 (fun HT_ HW_ => ?_)
                            generalize wr.drew = w68 at HO_7 HO_9 HO_12 HB HL225_6 HL227_6 HR225_6 HR227_6 hx224_0 hx225_0 hx225_1 hx225_2 hx225_3 hx225_4 hx225_5 hx225_6 hx226_0 hx227_0 hx227_1 hx227_2 hx227_3 hx227_4 hx227_5 hx227_6 hHeld ⊢
                            refine pure_ (i := 0) (N := some 85) (v := ?_) (a' := ?_) #[true, false, false, false, false, false, false, false, false, false, false, false, false, false, false, false, false, false] rfl rfl (any_of HT_.out (by kernel_rfl)) (fun _ _ _ h => h) (Or.inl ⟨by rfl, ?_⟩) ?_ ?_
                            rotate_left
                            · intro w'
                              go_simp
                              with_reducible rfl
                            rotate_left
                            · simp only [Act.put, List.setIfInBounds_toArray, List.set_cons_zero, List.set_cons_succ, i64_w, i32_w]
                              rfl
                            refine pure_ (i := 1) (N := some 86) (v := ?_) (a' := ?_) #[true, true, false, false, false, false, false, false, false, false, false, false, false, false, false, false, false, false] rfl rfl (any_of HT_.out (by kernel_rfl)) (fun _ _ _ h => h) (Or.inl ⟨by rfl, ?_⟩) ?_ ?_
                            rotate_left
                            · intro w'
                              go_simp
                              with_reducible rfl
                            rotate_left
                            · simp only [Act.put, List.setIfInBounds_toArray, List.set_cons_zero, List.set_cons_succ, i64_w, i32_w]
                              rfl
                            refine pure_ (i := 2) (N := some 87) (v := ?_) (a' := ?_) #[true, true, true, false, false, false, false, false, false, false, false, false, false, false, false, false, false, false] rfl rfl (any_of HT_.out (by kernel_rfl)) (fun _ _ _ h => h) (Or.inl ⟨by rfl, ?_⟩) ?_ ?_
                            rotate_left
                            · intro w'
                              go_simp
                              with_reducible rfl
                            rotate_left
                            · simp only [Act.put, List.setIfInBounds_toArray, List.set_cons_zero, List.set_cons_succ, i64_w, i32_w]
                              rfl
                            refine pure_ (i := 3) (N := some 88) (v := ?_) (a' := ?_) #[true, true, true, true, false, false, false, false, false, false, false, false, false, false, false, false, false, false] rfl rfl (any_of HT_.out (by kernel_rfl)) (fun _ _ _ h => h) (Or.inl ⟨by rfl, ?_⟩) ?_ ?_
                            rotate_left
                            · intro w'
                              go_simp
                              with_reducible rfl
                            rotate_left
                            · simp only [Act.put, List.setIfInBounds_toArray, List.set_cons_zero, List.set_cons_succ, i64_w, i32_w]
                              rfl
                            refine pure_ (i := 8) (N := some 93) (v := ?_) (a' := ?_) #[true, true, true, true, false, false, false, false, true, false, false, false, false, false, false, false, false, false] rfl rfl (any_of HT_.out (by kernel_rfl)) (fun _ _ _ h => h) (Or.inl ⟨by rfl, ?_⟩) ?_ ?_
                            rotate_left
                            · intro w'
                              go_simp
                              with_reducible rfl
                            rotate_left
                            · simp only [Act.put, List.setIfInBounds_toArray, List.set_cons_zero, List.set_cons_succ, i64_w, i32_w]
                              rfl
                            refine pure_ (i := 9) (N := some 94) (v := ?_) (a' := ?_) #[true, true, true, true, false, false, false, false, true, true, false, false, false, false, false, false, false, false] rfl rfl (any_of HT_.out (by kernel_rfl)) (fun _ _ _ h => h) (Or.inl ⟨by rfl, ?_⟩) ?_ ?_
                            rotate_left
                            · intro w'
                              go_simp
                              with_reducible rfl
                            rotate_left
                            · simp only [Act.put, List.setIfInBounds_toArray, List.set_cons_zero, List.set_cons_succ, i64_w, i32_w]
                              rfl
                            refine pure_ (i := 10) (N := some 95) (v := ?_) (a' := ?_) #[true, true, true, true, false, false, false, false, true, true, true, false, false, false, false, false, false, false] rfl rfl (any_of HT_.out (by kernel_rfl)) (fun _ _ _ h => h) (Or.inl ⟨by rfl, ?_⟩) ?_ ?_
                            rotate_left
                            · intro w'
                              go_simp
                              with_reducible rfl
                            rotate_left
                            · simp only [Act.put, List.setIfInBounds_toArray, List.set_cons_zero, List.set_cons_succ, i64_w, i32_w]
                              rfl
                            refine pure_ (i := 11) (N := some 96) (v := ?_) (a' := ?_) #[true, true, true, true, false, false, false, false, true, true, true, true, false, false, false, false, false, false] rfl rfl (any_of HT_.out (by kernel_rfl)) (fun _ _ _ h => h) (Or.inl ⟨by rfl, ?_⟩) ?_ ?_
                            rotate_left
                            · intro w'
                              go_simp
                              with_reducible rfl
                            rotate_left
                            · simp only [Act.put, List.setIfInBounds_toArray, List.set_cons_zero, List.set_cons_succ, i64_w, i32_w]
                              rfl
                            refine take_ (i := 4) (N := some 89) (v := ?_) (a' := ?_) #[true, true, true, true, true, false, false, false, true, true, true, true, false, false, false, false, false, false] rfl rfl (take_ofW HT_.out HW_.out (by kernel_rfl)) (fun _ _ _ h => h) (Or.inl ⟨by rfl, ?_⟩) hHeld ?_ ?_
                            rotate_left
                            · rintro w' ⟨s0, s1, s2, s3, s4, s5, s6, s7, s8, s9, s10, s11, s12, s13, s14, s15⟩
                              go_simp
                              with_reducible rfl
                            rotate_left
                            · simp only [Act.put, List.setIfInBounds_toArray, List.set_cons_zero, List.set_cons_succ, i64_w, i32_w]
                              rfl
                            refine pure_ (i := 5) (N := some 90) (v := ?_) (a' := ?_) #[true, true, true, true, true, true, false, false, true, true, true, true, false, false, false, false, false, false] rfl rfl (any_of HT_.out (by kernel_rfl)) (fun _ _ _ h => h) (Or.inl ⟨by rfl, ?_⟩) ?_ ?_
                            rotate_left
                            · intro w'
                              go_simp
                              with_reducible rfl
                            rotate_left
                            · simp only [Act.put, List.setIfInBounds_toArray, List.set_cons_zero, List.set_cons_succ, i64_w, i32_w]
                              rfl
                            refine pure_ (i := 6) (N := some 91) (v := ?_) (a' := ?_) #[true, true, true, true, true, true, true, false, true, true, true, true, false, false, false, false, false, false] rfl rfl (any_of HT_.out (by kernel_rfl)) (fun _ _ _ h => h) (Or.inl ⟨by rfl, ?_⟩) ?_ ?_
                            rotate_left
                            · intro w'
                              go_simp
                              with_reducible rfl
                            rotate_left
                            · simp only [Act.put, List.setIfInBounds_toArray, List.set_cons_zero, List.set_cons_succ, i64_w, i32_w]
                              rfl
                            refine take_ (i := 7) (N := some 92) (v := ?_) (a' := ?_) #[true, true, true, true, true, true, true, true, true, true, true, true, false, false, false, false, false, false] rfl rfl (take_ofW HT_.out HW_.out (by kernel_rfl)) (fun _ _ _ h => h) (Or.inl ⟨by rfl, ?_⟩) hHeld ?_ ?_
                            rotate_left
                            · rintro w' ⟨s0, s1, s2, s3, s4, s5, s6, s7, s8, s9, s10, s11, s12, s13, s14, s15⟩
                              go_simp
                              with_reducible rfl
                            rotate_left
                            · simp only [Act.put, List.setIfInBounds_toArray, List.set_cons_zero, List.set_cons_succ, i64_w, i32_w]
                              rfl
                            refine take_ (i := 12) (N := some 97) (v := ?_) (a' := ?_) #[true, true, true, true, true, true, true, true, true, true, true, true, true, false, false, false, false, false] rfl rfl (take_ofW HT_.out HW_.out (by kernel_rfl)) (fun _ _ _ h => h) (Or.inl ⟨by rfl, ?_⟩) hHeld ?_ ?_
                            rotate_left
                            · rintro w' ⟨s0, s1, s2, s3, s4, s5, s6, s7, s8, s9, s10, s11, s12, s13, s14, s15⟩
                              go_simp
                              with_reducible rfl
                            rotate_left
                            · simp only [Act.put, List.setIfInBounds_toArray, List.set_cons_zero, List.set_cons_succ, i64_w, i32_w]
                              rfl
                            refine pure_ (i := 13) (N := some 98) (v := ?_) (a' := ?_) #[true, true, true, true, true, true, true, true, true, true, true, true, true, true, false, false, false, false] rfl rfl (any_of HT_.out (by kernel_rfl)) (fun _ _ _ h => h) (Or.inl ⟨by rfl, ?_⟩) ?_ ?_
                            rotate_left
                            · intro w'
                              go_simp
                              with_reducible rfl
                            rotate_left
                            · simp only [Act.put, List.setIfInBounds_toArray, List.set_cons_zero, List.set_cons_succ, i64_w, i32_w]
                              rfl
                            refine pure_ (i := 14) (N := some 99) (v := ?_) (a' := ?_) #[true, true, true, true, true, true, true, true, true, true, true, true, true, true, true, false, false, false] rfl rfl (any_of HT_.out (by kernel_rfl)) (fun _ _ _ h => h) (Or.inl ⟨by rfl, ?_⟩) ?_ ?_
                            rotate_left
                            · intro w'
                              go_simp
                              with_reducible rfl
                            rotate_left
                            · simp only [Act.put, List.setIfInBounds_toArray, List.set_cons_zero, List.set_cons_succ, i64_w, i32_w]
                              rfl
                            refine take_ (i := 15) (N := some 100) (v := ?_) (a' := ?_) #[true, true, true, true, true, true, true, true, true, true, true, true, true, true, true, true, false, false] rfl rfl (take_ofW HT_.out HW_.out (by kernel_rfl)) (fun _ _ _ h => h) (Or.inl ⟨by rfl, ?_⟩) hHeld ?_ ?_
                            rotate_left
                            · rintro w' ⟨s0, s1, s2, s3, s4, s5, s6, s7, s8, s9, s10, s11, s12, s13, s14, s15⟩
                              go_simp
                              with_reducible rfl
                            rotate_left
                            · simp only [Act.put, List.setIfInBounds_toArray, List.set_cons_zero, List.set_cons_succ, i64_w, i32_w]
                              rfl
                            refine pure_ (i := 16) (N := some 101) (v := ?_) (a' := ?_) #[true, true, true, true, true, true, true, true, true, true, true, true, true, true, true, true, true, false] rfl rfl (any_of HT_.out (by kernel_rfl)) (fun _ _ _ h => h) (Or.inl ⟨by rfl, ?_⟩) ?_ ?_
                            rotate_left
                            · intro w'
                              go_simp
                              with_reducible rfl
                            rotate_left
                            · simp only [Act.put, List.setIfInBounds_toArray, List.set_cons_zero, List.set_cons_succ, i64_w, i32_w]
                              rfl
                            refine pure_ (i := 17) (N := some 17) (v := ?_) (a' := ?_) #[true, true, true, true, true, true, true, true, true, true, true, true, true, true, true, true, true, true] rfl rfl (any_of HT_.out (by kernel_rfl)) (fun _ _ _ h => h) (Or.inl ⟨by rfl, ?_⟩) ?_ ?_
                            rotate_left
                            · intro w'
                              go_simp
                              with_reducible rfl
                            rotate_left
                            · simp only [Act.put, List.setIfInBounds_toArray, List.set_cons_zero, List.set_cons_succ, i64_w, i32_w]
                              rfl
                            refine done_ (done_of HT_.out (by kernel_rfl)) ?_
                            try go_wp2
                            have n0_ := Aside0.mk (Kd.S_drew HO_7.out)
                            have n1_ := Aside0.mk (Kd.S_drew HO_9.out)
                            have n2_ := Aside0.mk (Kd.R_drew HO_12.out)
                            have n3_ := Aside0.mk (Kd.R_drew HL225_6.out)
                            have n4_ := Aside0.mk (Kd.R_drew HL227_6.out)
                            have n5_ := Aside0.mk (Kd.C_drew HR225_6.out)
                            have n6_ := Aside0.mk (Kd.C_drew HR227_6.out)
                            have n7_ := Aside0.mk (below_drew1 HB.out)
                            clear HO_7
                            clear HO_9
                            clear HO_12
                            clear HL225_6
                            clear HL227_6
                            clear HR225_6
                            clear HR227_6
                            clear HB
                            have HO_7 := n0_
                            have HO_9 := n1_
                            have HO_12 := n2_
                            have HL225_6 := n3_
                            have HL227_6 := n4_
                            have HR225_6 := n5_
                            have HR227_6 := n6_
                            have HB := n7_
                            clear n0_ n1_ n2_ n3_ n4_ n5_ n6_ n7_
                            have p228 : 0 ≤ (x16_3 : Int) := of_decide_eq_true (by first | (with_reducible assumption) | assumption)
                            have q228 : x16_3 < (t213.length : Int) := of_decide_eq_true (by first | (with_reducible assumption) | assumption)
                            obtain ⟨ad228, e228, hx228_0⟩ := Kd.at_int (Kd.R_reads' HO_12.out).2.2 x16_3 p228 q228
                            obtain rfl : ad224 = ad228 := (by injection e228)
                            replace p228 := eq_true p228
                            replace q228 := eq_true q228
                            have p229 : 0 ≤ (x16_3 : Int) := of_decide_eq_true (by first | (with_reducible assumption) | assumption)
                            have q229 : x16_3 < (t213.length : Int) := of_decide_eq_true (by first | (with_reducible assumption) | assumption)
                            obtain ⟨ad229, e229, hx229_0⟩ := Kd.at_int (Kd.R_reads' HO_12.out).2.2 x16_3 p229 q229
                            obtain rfl : ad224 = ad229 := (by injection e229)
                            replace p229 := eq_true p229
                            replace q229 := eq_true q229
                            have p230 : 0 ≤ ((rd t213 x16_3) : Int) := of_decide_eq_true (by first | (with_reducible assumption) | assumption)
                            have q230 : (rd t213 x16_3) < (t205.length : Int) := of_decide_eq_true (by first | (with_reducible assumption) | assumption)
                            obtain ⟨ad230, A230_6, c230_6, e230, hx230_0, hx230_1, hx230_2, hx230_3, hx230_4, hx230_5, hx230_6, hl230_6, hi230_6⟩ := at_T33 (Kd.S_reads' HO_7.out).2.2 (rd t213 x16_3) p230 q230
                            obtain rfl : ad227 = ad230 := (by injection e230)
                            obtain ⟨ce230, hce230, hMe230, hcc230⟩ := Kd.S_get HO_7.out z33 (rd t213 x16_3) p230 (by first | exact q230 | exact of_decide_eq_true (by first | (with_reducible assumption) | assumption) | (have e_ := (Kd.S_reads' HO_7.out).1; omega))
                            obtain ⟨ve230_6, rfl, ge230_6⟩ := k33_openM hMe230
                            have hv230_6 := hcc230 6 _ rfl
                            rw [add_field _ _ 6 (by omega)] at hv230_6
                            replace hv230_6 := Option.some.inj (hv230_6.symm.trans hx230_6)
                            rw [hv230_6] at ge230_6
                            have HL230_6 := Aside0.mk (show Kd.R (Kd.int .i64) 3 _ _ _ _ ((rd_T33 t205 (rd t213 x16_3)).f6) from ge230_6)
                            clear hv230_6 ge230_6
                            clear hcc230 hce230
                            have HR230_6 := Aside0.mk hi230_6
                            have HC230_6 := Aside0.mk hl230_6
                            clear hi230_6 hl230_6
                            replace p230 := eq_true p230
                            replace q230 := eq_true q230
                            have p66 : 0 ≤ ((rd t213 x16_3) : Int) := of_decide_eq_true (by first | (with_reducible assumption) | assumption)
                            have q66 : ((rd t213 x16_3) : Int) < ((x9_3.length : Int) : Int) := of_decide_eq_true (by first | (with_reducible assumption) | assumption)
                            obtain ⟨go66, co66, eo66, gb66, gl66, cl66, HG66⟩ := Kd.S_form HO_9.out (by omega)
                            (first | cases eo66 | (injection eo66 with ea_ en_ ec_; (first | subst ea_ | (injection ea_ with ea_; subst ea_)); subst ec_; clear en_))
                            have GB66 := Aside0.mk gb66
                            have GG66 := Aside0.mk HG66
                            clear gb66 gl66 HG66
                            (first | simp only [add_plain] at hx225_0 | skip)
                            (first | simp only [add_plain] at hx225_1 | skip)
                            (first | simp only [add_plain] at hx225_2 | skip)
                            (first | simp only [add_plain] at hx225_3 | skip)
                            (first | simp only [add_plain] at hx225_4 | skip)
                            (first | simp only [add_plain] at hx225_5 | skip)
                            (first | simp only [add_plain] at hx225_6 | skip)
                            obtain ⟨_, ce66, hcl66, hM66, hcc66, hfr66, _, _⟩ := Kd.S_elem HO_9.out z33 ((rd t213 x16_3) : Int) p66 q66
                            obtain ⟨ve66_6, rfl, ge66_6⟩ := k33_openM hM66
                            have hx66_0 : World.cell? _ ⟨go66, ((rd t213 x16_3) : Int).toNat * 7, none⟩ = some (.int .i64 ((rd_T33 x9_3 (rd t213 x16_3)).f0)) := hcc66 0 _ rfl
                            have hx66_1 : World.cell? _ ⟨go66, ((rd t213 x16_3) : Int).toNat * 7 + 1, none⟩ = some (.int .i64 ((rd_T33 x9_3 (rd t213 x16_3)).f1)) := hcc66 1 _ rfl
                            have hx66_2 : World.cell? _ ⟨go66, ((rd t213 x16_3) : Int).toNat * 7 + 2, none⟩ = some (.int .i64 ((rd_T33 x9_3 (rd t213 x16_3)).f2)) := hcc66 2 _ rfl
                            have hx66_3 : World.cell? _ ⟨go66, ((rd t213 x16_3) : Int).toNat * 7 + 3, none⟩ = some (.int .i64 ((rd_T33 x9_3 (rd t213 x16_3)).f3)) := hcc66 3 _ rfl
                            have hx66_4 : World.cell? _ ⟨go66, ((rd t213 x16_3) : Int).toNat * 7 + 4, none⟩ = some (.string ((rd_T33 x9_3 (rd t213 x16_3)).f4)) := hcc66 4 _ rfl
                            have hx66_5 : World.cell? _ ⟨go66, ((rd t213 x16_3) : Int).toNat * 7 + 5, none⟩ = some (.string ((rd_T33 x9_3 (rd t213 x16_3)).f5)) := hcc66 5 _ rfl
                            have hx66_6 : World.cell? _ ⟨go66, ((rd t213 x16_3) : Int).toNat * 7 + 6, none⟩ = some (ve66_6) := hcc66 6 _ rfl
                            have hf66_0 : World.frozen? _ ⟨go66, ((rd t213 x16_3) : Int).toNat * 7, none⟩ = false := hfr66 0
                            have hf66_1 : World.frozen? _ ⟨go66, ((rd t213 x16_3) : Int).toNat * 7 + 1, none⟩ = false := hfr66 1
                            have hf66_2 : World.frozen? _ ⟨go66, ((rd t213 x16_3) : Int).toNat * 7 + 2, none⟩ = false := hfr66 2
                            have hf66_3 : World.frozen? _ ⟨go66, ((rd t213 x16_3) : Int).toNat * 7 + 3, none⟩ = false := hfr66 3
                            have hf66_4 : World.frozen? _ ⟨go66, ((rd t213 x16_3) : Int).toNat * 7 + 4, none⟩ = false := hfr66 4
                            have hf66_5 : World.frozen? _ ⟨go66, ((rd t213 x16_3) : Int).toNat * 7 + 5, none⟩ = false := hfr66 5
                            have hf66_6 : World.frozen? _ ⟨go66, ((rd t213 x16_3) : Int).toNat * 7 + 6, none⟩ = false := hfr66 6
                            clear hcl66 hcc66 hfr66 hM66
                            replace p66 := eq_true p66
                            replace q66 := eq_true q66
                            have HX71 := Aside0.mk (show Kd.S k33 33 _ w.heap.size (fun k_ => ((fun k_ => some k_ ≠ (.slice (some ad227) t205.length co8 : Value).ownBlock ∧ some k_ ≠ (.slice (some ad224) t213.length co67 : Value).ownBlock)) k_ ∧ ¬ (fun _ => False) k_) (.slice (some ⟨go66, 0, none⟩) x9_3.length co69) x9_3 from (by exact Kd.S_mono HO_9.out (fun k_ hk => ⟨⟨hk.1, hk.2⟩, fun e_ => e_⟩)))
                            obtain ⟨oki71, ce71, hcl71, hM71, hcc71, hfr71, hoki71, hH71⟩ := Kd.S_elem HX71.out z33 ((rd t213 x16_3) : Int) (of_decide_eq_true (by first | (with_reducible assumption) | assumption)) (by have h_ : ((rd t213 x16_3) : Int) < ((x9_3.length : Int) : Int) := of_decide_eq_true (by first | (with_reducible assumption) | assumption); first | exact h_ | (have e_ := (Kd.S_reads' HO_9.out).1; omega) | simpa using h_)
                            obtain ⟨ve71_6, rfl, ge71_6⟩ := k33_openM hM71
                            have HP71 := (Kd.S_seg hH71 (of_decide_eq_true (by first | (with_reducible assumption) | assumption)) (by have h_ : ((rd t213 x16_3) : Int) < ((x9_3.length : Int) : Int) := of_decide_eq_true (by first | (with_reducible assumption) | assumption); first | exact h_ | (have e_ := (Kd.S_reads' HO_9.out).1; omega) | simpa using h_) (seg := [.int .i64 ((rd_T33 t205 (rd t213 x16_3)).f1)]) (j := 1) (show 2 ≤ 7 from by decide) (x' := (⟨(rd_T33 x9_3 (rd t213 x16_3)).f0, (rd_T33 t205 (rd t213 x16_3)).f1, (rd_T33 x9_3 (rd t213 x16_3)).f2, (rd_T33 x9_3 (rd t213 x16_3)).f3, (rd_T33 x9_3 (rd t213 x16_3)).f4, (rd_T33 x9_3 (rd t213 x16_3)).f5, (rd_T33 x9_3 (rd t213 x16_3)).f6⟩ : S33)) (k33_mkM _ _ _ (⟨(rd_T33 x9_3 (rd t213 x16_3)).f0, (rd_T33 t205 (rd t213 x16_3)).f1, (rd_T33 x9_3 (rd t213 x16_3)).f2, (rd_T33 x9_3 (rd t213 x16_3)).f3, (rd_T33 x9_3 (rd t213 x16_3)).f4, (rd_T33 x9_3 (rd t213 x16_3)).f5, (rd_T33 x9_3 (rd t213 x16_3)).f6⟩ : S33) ge71_6) (fun _ hk => Or.inl hk) (fun _ hk => hk.elim)).1
                            rw [← Ny231.out] at HP71
                            have HQ71 := Aside0.mk HP71
                            clear hcl71 hcc71 hfr71 hM71 HP71
                            refine start_ (n := 16) (S := fun w' => w'.cell? (ad224.add (x16_3).toNat) = some (.int .i64 (rd t213 x16_3)) ∧ w'.cell? (ad224.add (x16_3).toNat) = some (.int .i64 (rd t213 x16_3)) ∧ w'.cell? (ad227.add (((rd t213 x16_3)).toNat * 7)) = some (.int .i64 ((rd_T33 t205 (rd t213 x16_3)).f0)) ∧ w'.cell? ⟨(ad227.add (((rd t213 x16_3)).toNat * 7)).block, (ad227.add (((rd t213 x16_3)).toNat * 7)).off + 1, none⟩ = some (.int .i64 ((rd_T33 t205 (rd t213 x16_3)).f1)) ∧ w'.cell? ⟨(ad227.add (((rd t213 x16_3)).toNat * 7)).block, (ad227.add (((rd t213 x16_3)).toNat * 7)).off + 2, none⟩ = some (.int .i64 ((rd_T33 t205 (rd t213 x16_3)).f2)) ∧ w'.cell? ⟨(ad227.add (((rd t213 x16_3)).toNat * 7)).block, (ad227.add (((rd t213 x16_3)).toNat * 7)).off + 3, none⟩ = some (.int .i64 ((rd_T33 t205 (rd t213 x16_3)).f3)) ∧ w'.cell? ⟨(ad227.add (((rd t213 x16_3)).toNat * 7)).block, (ad227.add (((rd t213 x16_3)).toNat * 7)).off + 4, none⟩ = some (.string ((rd_T33 t205 (rd t213 x16_3)).f4)) ∧ w'.cell? ⟨(ad227.add (((rd t213 x16_3)).toNat * 7)).block, (ad227.add (((rd t213 x16_3)).toNat * 7)).off + 5, none⟩ = some (.string ((rd_T33 t205 (rd t213 x16_3)).f5)) ∧ w'.cell? ⟨(ad227.add (((rd t213 x16_3)).toNat * 7)).block, (ad227.add (((rd t213 x16_3)).toNat * 7)).off + 6, none⟩ = some (.slice A230_6 ((rd_T33 t205 (rd t213 x16_3)).f6).length c230_6)) (ds := [15]) #[false, false, false, false, false, false, false, false, false, false, false, false, false, false, false, false] (by kernel_rfl) rfl rfl ⟨hx228_0, hx229_0, hx230_0, hx230_1, hx230_2, hx230_3, hx230_4, hx230_5, hx230_6⟩ (fun hHeld => ?_); refine with_tabW frisketlaw11_FillEnds.tab16 frisketlaw11_FillEnds.bits16 (fun HT_ HW_ => ?_)
                            generalize w68.drew = w70 at HO_7 HO_9 HO_12 HL225_6 HL227_6 HR225_6 HR227_6 HB GG66 HL230_6 HQ71 HR230_6 hf66_0 hf66_1 hf66_2 hf66_3 hf66_4 hf66_5 hf66_6 hx225_0 hx225_1 hx225_2 hx225_3 hx225_4 hx225_5 hx225_6 hx228_0 hx229_0 hx230_0 hx230_1 hx230_2 hx230_3 hx230_4 hx230_5 hx230_6 hx66_0 hx66_1 hx66_2 hx66_3 hx66_4 hx66_5 hx66_6 hHeld ⊢
                            refine pure_ (i := 0) (N := some 108) (v := ?_) (a' := ?_) #[true, false, false, false, false, false, false, false, false, false, false, false, false, false, false, false] rfl rfl (any_of HT_.out (by kernel_rfl)) (fun _ _ _ h => h) (Or.inl ⟨by rfl, ?_⟩) ?_ ?_
                            rotate_left
                            · intro w'
                              go_simp
                              with_reducible rfl
                            rotate_left
                            · simp only [Act.put, List.setIfInBounds_toArray, List.set_cons_zero, List.set_cons_succ, i64_w, i32_w]
                              rfl
                            refine pure_ (i := 1) (N := some 109) (v := ?_) (a' := ?_) #[true, true, false, false, false, false, false, false, false, false, false, false, false, false, false, false] rfl rfl (any_of HT_.out (by kernel_rfl)) (fun _ _ _ h => h) (Or.inl ⟨by rfl, ?_⟩) ?_ ?_
                            rotate_left
                            · intro w'
                              go_simp
                              with_reducible rfl
                            rotate_left
                            · simp only [Act.put, List.setIfInBounds_toArray, List.set_cons_zero, List.set_cons_succ, i64_w, i32_w]
                              rfl
                            refine pure_ (i := 2) (N := some 110) (v := ?_) (a' := ?_) #[true, true, true, false, false, false, false, false, false, false, false, false, false, false, false, false] rfl rfl (any_of HT_.out (by kernel_rfl)) (fun _ _ _ h => h) (Or.inl ⟨by rfl, ?_⟩) ?_ ?_
                            rotate_left
                            · intro w'
                              go_simp
                              with_reducible rfl
                            rotate_left
                            · simp only [Act.put, List.setIfInBounds_toArray, List.set_cons_zero, List.set_cons_succ, i64_w, i32_w]
                              rfl
                            refine pure_ (i := 3) (N := some 111) (v := ?_) (a' := ?_) #[true, true, true, true, false, false, false, false, false, false, false, false, false, false, false, false] rfl rfl (any_of HT_.out (by kernel_rfl)) (fun _ _ _ h => h) (Or.inl ⟨by rfl, ?_⟩) ?_ ?_
                            rotate_left
                            · intro w'
                              go_simp
                              with_reducible rfl
                            rotate_left
                            · simp only [Act.put, List.setIfInBounds_toArray, List.set_cons_zero, List.set_cons_succ, i64_w, i32_w]
                              rfl
                            refine pure_ (i := 5) (N := some 113) (v := ?_) (a' := ?_) #[true, true, true, true, false, true, false, false, false, false, false, false, false, false, false, false] rfl rfl (any_of HT_.out (by kernel_rfl)) (fun _ _ _ h => h) (Or.inl ⟨by rfl, ?_⟩) ?_ ?_
                            rotate_left
                            · intro w'
                              go_simp
                              with_reducible rfl
                            rotate_left
                            · simp only [Act.put, List.setIfInBounds_toArray, List.set_cons_zero, List.set_cons_succ, i64_w, i32_w]
                              rfl
                            refine pure_ (i := 6) (N := some 114) (v := ?_) (a' := ?_) #[true, true, true, true, false, true, true, false, false, false, false, false, false, false, false, false] rfl rfl (any_of HT_.out (by kernel_rfl)) (fun _ _ _ h => h) (Or.inl ⟨by rfl, ?_⟩) ?_ ?_
                            rotate_left
                            · intro w'
                              go_simp
                              with_reducible rfl
                            rotate_left
                            · simp only [Act.put, List.setIfInBounds_toArray, List.set_cons_zero, List.set_cons_succ, i64_w, i32_w]
                              rfl
                            refine pure_ (i := 7) (N := some 115) (v := ?_) (a' := ?_) #[true, true, true, true, false, true, true, true, false, false, false, false, false, false, false, false] rfl rfl (any_of HT_.out (by kernel_rfl)) (fun _ _ _ h => h) (Or.inl ⟨by rfl, ?_⟩) ?_ ?_
                            rotate_left
                            · intro w'
                              go_simp
                              with_reducible rfl
                            rotate_left
                            · simp only [Act.put, List.setIfInBounds_toArray, List.set_cons_zero, List.set_cons_succ, i64_w, i32_w]
                              rfl
                            refine pure_ (i := 8) (N := some 116) (v := ?_) (a' := ?_) #[true, true, true, true, false, true, true, true, true, false, false, false, false, false, false, false] rfl rfl (any_of HT_.out (by kernel_rfl)) (fun _ _ _ h => h) (Or.inl ⟨by rfl, ?_⟩) ?_ ?_
                            rotate_left
                            · intro w'
                              go_simp
                              with_reducible rfl
                            rotate_left
                            · simp only [Act.put, List.setIfInBounds_toArray, List.set_cons_zero, List.set_cons_succ, i64_w, i32_w]
                              rfl
                            refine take_ (i := 4) (N := some 112) (v := ?_) (a' := ?_) #[true, true, true, true, true, true, true, true, true, false, false, false, false, false, false, false] rfl rfl (take_ofW HT_.out HW_.out (by kernel_rfl)) (fun _ _ _ h => h) (Or.inl ⟨by rfl, ?_⟩) hHeld ?_ ?_
                            rotate_left
                            · rintro w' ⟨s0, s1, s2, s3, s4, s5, s6, s7, s8⟩
                              go_simp
                              with_reducible rfl
                            rotate_left
                            · simp only [Act.put, List.setIfInBounds_toArray, List.set_cons_zero, List.set_cons_succ, i64_w, i32_w]
                              rfl
                            refine take_ (i := 9) (N := some 117) (v := ?_) (a' := ?_) #[true, true, true, true, true, true, true, true, true, true, false, false, false, false, false, false] rfl rfl (take_ofW HT_.out HW_.out (by kernel_rfl)) (fun _ _ _ h => h) (Or.inl ⟨by rfl, ?_⟩) hHeld ?_ ?_
                            rotate_left
                            · rintro w' ⟨s0, s1, s2, s3, s4, s5, s6, s7, s8⟩
                              go_simp
                              with_reducible rfl
                            rotate_left
                            · simp only [Act.put, List.setIfInBounds_toArray, List.set_cons_zero, List.set_cons_succ, i64_w, i32_w]
                              rfl
                            refine pure_ (i := 10) (N := some 118) (v := ?_) (a' := ?_) #[true, true, true, true, true, true, true, true, true, true, true, false, false, false, false, false] rfl rfl (any_of HT_.out (by kernel_rfl)) (fun _ _ _ h => h) (Or.inl ⟨by rfl, ?_⟩) ?_ ?_
                            rotate_left
                            · intro w'
                              go_simp
                              with_reducible rfl
                            rotate_left
                            · simp only [Act.put, List.setIfInBounds_toArray, List.set_cons_zero, List.set_cons_succ, i64_w, i32_w]
                              rfl
                            refine pure_ (i := 11) (N := some 119) (v := ?_) (a' := ?_) #[true, true, true, true, true, true, true, true, true, true, true, true, false, false, false, false] rfl rfl (any_of HT_.out (by kernel_rfl)) (fun _ _ _ h => h) (Or.inl ⟨by rfl, ?_⟩) ?_ ?_
                            rotate_left
                            · intro w'
                              go_simp
                              with_reducible rfl
                            rotate_left
                            · simp only [Act.put, List.setIfInBounds_toArray, List.set_cons_zero, List.set_cons_succ, i64_w, i32_w]
                              rfl
                            refine take_ (i := 12) (N := some 120) (v := ?_) (a' := ?_) #[true, true, true, true, true, true, true, true, true, true, true, true, true, false, false, false] rfl rfl (take_ofW HT_.out HW_.out (by kernel_rfl)) (fun _ _ _ h => h) (Or.inl ⟨by rfl, ?_⟩) hHeld ?_ ?_
                            rotate_left
                            · rintro w' ⟨s0, s1, s2, s3, s4, s5, s6, s7, s8⟩
                              go_simp
                              with_reducible rfl
                            rotate_left
                            · simp only [Act.put, List.setIfInBounds_toArray, List.set_cons_zero, List.set_cons_succ, i64_w, i32_w]
                              rfl
                            refine pure_ (i := 13) (N := some 121) (v := ?_) (a' := ?_) #[true, true, true, true, true, true, true, true, true, true, true, true, true, true, false, false] rfl rfl (any_of HT_.out (by kernel_rfl)) (fun _ _ _ h => h) (Or.inl ⟨by rfl, ?_⟩) ?_ ?_
                            rotate_left
                            · intro w'
                              go_simp
                              with_reducible rfl
                            rotate_left
                            · simp only [Act.put, List.setIfInBounds_toArray, List.set_cons_zero, List.set_cons_succ, i64_w, i32_w]
                              rfl
                            refine pure_ (i := 14) (N := some 122) (v := ?_) (a' := ?_) #[true, true, true, true, true, true, true, true, true, true, true, true, true, true, true, false] rfl rfl (any_of HT_.out (by kernel_rfl)) (fun _ _ _ h => h) (Or.inl ⟨by rfl, ?_⟩) ?_ ?_
                            rotate_left
                            · intro w'
                              go_simp
                              with_reducible rfl
                            rotate_left
                            · simp only [Act.put, List.setIfInBounds_toArray, List.set_cons_zero, List.set_cons_succ, i64_w, i32_w]
                              rfl
                            refine last_ (i := 15) (N := none) #[true, true, true, true, true, true, true, true, true, true, true, true, true, true, true, true] rfl rfl (one_of HT_.out (by kernel_rfl)) (by decide) (fun K hK => ?_)
                            refine skip_ (w1 := ?_) (by rfl) rfl ?_ ?_
                            rotate_left
                            · go_simp
                              rfl
                            refine hK.out _ _ ?_
                            clear hK K
                            refine done_ (done_of HT_.out (by kernel_rfl)) ?_
                            try go_wp2
                            go_roundg k3
                            case measure => have := HJ5.out; have := HJ15.out; have := HK3.out; omega
                            case rel => exact ⟨(y231), (ji64), (ji65), (wrap64 (x16_3 + 1)), (by first | rfl | (simp; done) | (simp only [← hji64] <;> (first | rfl | simp)) | (simp [*]; done)), (by first | rfl | (simp; done) | (simp only [← hji65] <;> (first | rfl | simp)) | (simp [*]; done)), (by first | rfl | (simp; done) | (simp [*]; done)), H', ⟨by have := HJ5.out; have := HJ15.out; have := HK3.out; omega⟩, ⟨by (with_reducible repeat (first | apply Kd.S_alloc | apply Kd.S_drewN | apply Kd.S_drew)); exact Kd.S_mono (Kd.S_far (p := ⟨go66, ((rd t213 x16_3) : Int).toNat * 7 + 1, none⟩) (Kd.S_mono HO_7.out (fun k_ hk => (⟨hk, fun e_ => hk.1 (by rw [e_]; rfl)⟩ : _ ∧ k_ ≠ go66))) (fun _ hk => hk.2) (.int .i64 ((rd_T33 t205 (rd t213 x16_3)).f1))) (fun _ hk => ⟨hk.1.1, hk.1.2⟩)⟩, ⟨by (with_reducible repeat (first | apply Kd.S_alloc | apply Kd.S_drewN | apply Kd.S_drew)); exact HQ71.out⟩, ⟨by (with_reducible repeat (first | apply Kd.R_alloc | apply Kd.R_drewN | apply Kd.R_drew)); exact Kd.R_mono (Kd.R_far (p := ⟨go66, ((rd t213 x16_3) : Int).toNat * 7 + 1, none⟩) (Kd.R_types HO_12.out GG66.out (by decide)) (fun _ hk => hk.2) (.int .i64 ((rd_T33 t205 (rd t213 x16_3)).f1))) (fun _ hk => trivial)⟩, ⟨by repeat (first | (with_reducible first | exact HB.out | apply below_alloc | apply pw_below_drewN | apply below_drew1 | refine below_set ?_ GB66.out) | exact HB.out)⟩⟩
                          · rw [if_neg c63] at H
                            exact absurd H (by simp)
                        · rw [if_neg c62] at H
                          exact absurd H (by simp)
                      · rw [if_neg c61] at H
                        exact absurd H (by simp)
                    · rw [if_neg c60] at H
                      exact absurd H (by simp)
                  · rw [if_neg c59] at H
                    have c59b0 : decide (x16_3 < (t213.length : Int)) = false := decide_eq_false c59
                    clear c59
                    by_cases c72 : (t213.length : Int) = 0
                    · rw [if_pos c72] at H
                      have c72b0 : ((t213.length : Int) == 0) = true := beq_iff_eq.mpr c72
                      have c72b1 : ((t213.length : Int) != 0) = false := bne_eq_false_iff_eq.mpr c72
                      clear c72
                      replace H := Option.bind_eq_some_iff.mp H
                      obtain ⟨t232, A730, H⟩ := H
                      replace H : (if t232 = true then ((frisketlaw11_sane.f).bind fun t233 => (some t233)) else (some false)) = some r := H
                      have A73 := Aside0.mk A730
                      clear A730
                      by_cases c74 : t232 = true
                      · subst c74
                        have H1 : ((frisketlaw11_sane.f).bind fun t233 => (some t233)) = some r := by rw [if_pos rfl] at H; exact H
                        clear H
                        have H := H1
                        clear H1
                        replace H := Option.bind_eq_some_iff.mp H
                        obtain ⟨t233, A750, H⟩ := H
                        replace H : (some t233) = some r := H
                        have A75 := Aside0.mk A750
                        clear A750
                        obtain rfl := Option.some.inj H
                        obtain ⟨Ao76, co76, eo76⟩ := Kd.R_slice HO_12.out
                        subst eo76
                        obtain ⟨Ao77, co77, eo77⟩ := Kd.S_slice HO_9.out
                        subst eo77
                        go_wp2_with (first | (go_at_call 14; (with_reducible refine (frisketref08_Same.calls k3 _ _ x9_3 _ _ t205 true _ ?side1 ?side2 ?side3 ?side4 A73.out).mono ?_); (case side1 => repeat (first | exact (Kd.S_reads' HO_9.out).2.2 | (with_reducible refine Kd.C_alloc ?_ _) | (with_reducible refine Kd.C_drewN ?_ _) | (with_reducible refine Kd.C_drew ?_))); (case side2 => exact (Kd.S_reads' HO_9.out).2.1); (case side3 => repeat (first | exact (Kd.S_reads' HO_7.out).2.2 | (with_reducible refine Kd.C_alloc ?_ _) | (with_reducible refine Kd.C_drewN ?_ _) | (with_reducible refine Kd.C_drew ?_))); (case side4 => exact (Kd.S_reads' HO_7.out).2.1); rintro e w78 ⟨rfl, hb⟩; have n0_ := Aside0.mk (Kd.S_below (by (with_reducible repeat (first | apply Kd.S_alloc | apply Kd.S_drewN | apply Kd.S_drew)); exact HO_7.out) hb); have n1_ := Aside0.mk (Kd.S_below (by (with_reducible repeat (first | apply Kd.S_alloc | apply Kd.S_drewN | apply Kd.S_drew)); exact HO_9.out) hb); have n2_ := Aside0.mk (Kd.R_below (by (with_reducible repeat (first | apply Kd.R_alloc | apply Kd.R_drewN | apply Kd.R_drew)); exact HO_12.out) hb); have n3_ := Aside0.mk (below_step (by repeat (first | (with_reducible first | exact HB.out | apply below_alloc | apply pw_below_drewN | apply below_drew1) | exact HB.out)) hb); clear HO_7; clear HO_9; clear HO_12; clear HB; have HO_7 := n0_; have HO_9 := n1_; have HO_12 := n2_; have HB := n3_; clear n0_ n1_ n2_ n3_; (try clear hb); (try clear hb2); (try clear hk); (try clear hi)) | (go_at_call 15; (with_reducible refine (frisketlaw11_sane.calls  t233 _ A75.out).mono ?_); rintro e w79 ⟨rfl, hb⟩; have n0_ := Aside0.mk (Kd.S_below (by (with_reducible repeat (first | apply Kd.S_alloc | apply Kd.S_drewN | apply Kd.S_drew)); exact HO_7.out) hb); have n1_ := Aside0.mk (Kd.S_below (by (with_reducible repeat (first | apply Kd.S_alloc | apply Kd.S_drewN | apply Kd.S_drew)); exact HO_9.out) hb); have n2_ := Aside0.mk (Kd.R_below (by (with_reducible repeat (first | apply Kd.R_alloc | apply Kd.R_drewN | apply Kd.R_drew)); exact HO_12.out) hb); have n3_ := Aside0.mk (below_step (by repeat (first | (with_reducible first | exact HB.out | apply below_alloc | apply pw_below_drewN | apply below_drew1) | exact HB.out)) hb); clear HO_7; clear HO_9; clear HO_12; clear HB; have HO_7 := n0_; have HO_9 := n1_; have HO_12 := n2_; have HB := n3_; clear n0_ n1_ n2_ n3_; (try clear hb); (try clear hb2); (try clear hk); (try clear hi)))
                        go_ret
                        exact ⟨by first | rfl | (simp [errW_none, errW_some] <;> rfl) | (simp [*, errW_none, errW_some] <;> rfl), by repeat (first | (with_reducible first | exact HB.out | apply below_alloc | apply pw_below_drewN | apply below_drew1) | exact HB.out)⟩
                      · replace c74 := Bool.eq_false_iff.mpr c74
                        subst c74
                        have H1 : (some false) = some r := by rw [if_neg (show ¬ (false = true) by decide)] at H; exact H
                        clear H
                        have H := H1
                        clear H1
                        obtain rfl := Option.some.inj H
                        obtain ⟨Ao80, co80, eo80⟩ := Kd.R_slice HO_12.out
                        subst eo80
                        obtain ⟨Ao81, co81, eo81⟩ := Kd.S_slice HO_9.out
                        subst eo81
                        go_wp2_with (first | (go_at_call 14; (with_reducible refine (frisketref08_Same.calls k3 _ _ x9_3 _ _ t205 false _ ?side1 ?side2 ?side3 ?side4 A73.out).mono ?_); (case side1 => repeat (first | exact (Kd.S_reads' HO_9.out).2.2 | (with_reducible refine Kd.C_alloc ?_ _) | (with_reducible refine Kd.C_drewN ?_ _) | (with_reducible refine Kd.C_drew ?_))); (case side2 => exact (Kd.S_reads' HO_9.out).2.1); (case side3 => repeat (first | exact (Kd.S_reads' HO_7.out).2.2 | (with_reducible refine Kd.C_alloc ?_ _) | (with_reducible refine Kd.C_drewN ?_ _) | (with_reducible refine Kd.C_drew ?_))); (case side4 => exact (Kd.S_reads' HO_7.out).2.1); rintro e w82 ⟨rfl, hb⟩; have n0_ := Aside0.mk (Kd.S_below (by (with_reducible repeat (first | apply Kd.S_alloc | apply Kd.S_drewN | apply Kd.S_drew)); exact HO_7.out) hb); have n1_ := Aside0.mk (Kd.S_below (by (with_reducible repeat (first | apply Kd.S_alloc | apply Kd.S_drewN | apply Kd.S_drew)); exact HO_9.out) hb); have n2_ := Aside0.mk (Kd.R_below (by (with_reducible repeat (first | apply Kd.R_alloc | apply Kd.R_drewN | apply Kd.R_drew)); exact HO_12.out) hb); have n3_ := Aside0.mk (below_step (by repeat (first | (with_reducible first | exact HB.out | apply below_alloc | apply pw_below_drewN | apply below_drew1) | exact HB.out)) hb); clear HO_7; clear HO_9; clear HO_12; clear HB; have HO_7 := n0_; have HO_9 := n1_; have HO_12 := n2_; have HB := n3_; clear n0_ n1_ n2_ n3_; (try clear hb); (try clear hb2); (try clear hk); (try clear hi)))
                        go_ret
                        exact ⟨by first | rfl | (simp [errW_none, errW_some] <;> rfl) | (simp [*, errW_none, errW_some] <;> rfl), by repeat (first | (with_reducible first | exact HB.out | apply below_alloc | apply pw_below_drewN | apply below_drew1) | exact HB.out)⟩
                    · rw [if_neg c72] at H
                      have c72b0 : ((t213.length : Int) == 0) = false := beq_eq_false_iff_ne.mpr c72
                      have c72b1 : ((t213.length : Int) != 0) = true := bne_iff_ne.mpr c72
                      have c72b2 : ¬ (t213 = []) := fun h_ => c72 (by rw [h_]; rfl)
                      by_cases c83 : (wrap64 (x15_3 - x14_3)) ≤ 1
                      · rw [if_pos c83] at H
                        have c83b0 : decide ((wrap64 (x15_3 - x14_3)) ≤ 1) = true := decide_eq_true c83
                        clear c83
                        replace H := Option.bind_eq_some_iff.mp H
                        obtain ⟨t234, A840, H⟩ := H
                        replace H : (if t234 = true then ((frisketlaw11_sane.f).bind fun t235 => (some t235)) else (some false)) = some r := H
                        have A84 := Aside0.mk A840
                        clear A840
                        by_cases c85 : t234 = true
                        · subst c85
                          have H1 : ((frisketlaw11_sane.f).bind fun t235 => (some t235)) = some r := by rw [if_pos rfl] at H; exact H
                          clear H
                          have H := H1
                          clear H1
                          replace H := Option.bind_eq_some_iff.mp H
                          obtain ⟨t235, A860, H⟩ := H
                          replace H : (some t235) = some r := H
                          have A86 := Aside0.mk A860
                          clear A860
                          obtain rfl := Option.some.inj H
                          obtain ⟨Ao87, co87, eo87⟩ := Kd.R_slice HO_12.out
                          subst eo87
                          obtain ⟨Ao88, co88, eo88⟩ := Kd.S_slice HO_9.out
                          subst eo88
                          go_wp2_with (first | (go_at_call 14; (with_reducible refine (frisketref08_Same.calls k3 _ _ x9_3 _ _ t205 true _ ?side1 ?side2 ?side3 ?side4 A84.out).mono ?_); (case side1 => repeat (first | exact (Kd.S_reads' HO_9.out).2.2 | (with_reducible refine Kd.C_alloc ?_ _) | (with_reducible refine Kd.C_drewN ?_ _) | (with_reducible refine Kd.C_drew ?_))); (case side2 => exact (Kd.S_reads' HO_9.out).2.1); (case side3 => repeat (first | exact (Kd.S_reads' HO_7.out).2.2 | (with_reducible refine Kd.C_alloc ?_ _) | (with_reducible refine Kd.C_drewN ?_ _) | (with_reducible refine Kd.C_drew ?_))); (case side4 => exact (Kd.S_reads' HO_7.out).2.1); rintro e w89 ⟨rfl, hb⟩; have n0_ := Aside0.mk (Kd.S_below (by (with_reducible repeat (first | apply Kd.S_alloc | apply Kd.S_drewN | apply Kd.S_drew)); exact HO_7.out) hb); have n1_ := Aside0.mk (Kd.S_below (by (with_reducible repeat (first | apply Kd.S_alloc | apply Kd.S_drewN | apply Kd.S_drew)); exact HO_9.out) hb); have n2_ := Aside0.mk (Kd.R_below (by (with_reducible repeat (first | apply Kd.R_alloc | apply Kd.R_drewN | apply Kd.R_drew)); exact HO_12.out) hb); have n3_ := Aside0.mk (below_step (by repeat (first | (with_reducible first | exact HB.out | apply below_alloc | apply pw_below_drewN | apply below_drew1) | exact HB.out)) hb); clear HO_7; clear HO_9; clear HO_12; clear HB; have HO_7 := n0_; have HO_9 := n1_; have HO_12 := n2_; have HB := n3_; clear n0_ n1_ n2_ n3_; (try clear hb); (try clear hb2); (try clear hk); (try clear hi)) | (go_at_call 15; (with_reducible refine (frisketlaw11_sane.calls  t235 _ A86.out).mono ?_); rintro e w90 ⟨rfl, hb⟩; have n0_ := Aside0.mk (Kd.S_below (by (with_reducible repeat (first | apply Kd.S_alloc | apply Kd.S_drewN | apply Kd.S_drew)); exact HO_7.out) hb); have n1_ := Aside0.mk (Kd.S_below (by (with_reducible repeat (first | apply Kd.S_alloc | apply Kd.S_drewN | apply Kd.S_drew)); exact HO_9.out) hb); have n2_ := Aside0.mk (Kd.R_below (by (with_reducible repeat (first | apply Kd.R_alloc | apply Kd.R_drewN | apply Kd.R_drew)); exact HO_12.out) hb); have n3_ := Aside0.mk (below_step (by repeat (first | (with_reducible first | exact HB.out | apply below_alloc | apply pw_below_drewN | apply below_drew1) | exact HB.out)) hb); clear HO_7; clear HO_9; clear HO_12; clear HB; have HO_7 := n0_; have HO_9 := n1_; have HO_12 := n2_; have HB := n3_; clear n0_ n1_ n2_ n3_; (try clear hb); (try clear hb2); (try clear hk); (try clear hi)))
                          go_ret
                          exact ⟨by first | rfl | (simp [errW_none, errW_some] <;> rfl) | (simp [*, errW_none, errW_some] <;> rfl), by repeat (first | (with_reducible first | exact HB.out | apply below_alloc | apply pw_below_drewN | apply below_drew1) | exact HB.out)⟩
                        · replace c85 := Bool.eq_false_iff.mpr c85
                          subst c85
                          have H1 : (some false) = some r := by rw [if_neg (show ¬ (false = true) by decide)] at H; exact H
                          clear H
                          have H := H1
                          clear H1
                          obtain rfl := Option.some.inj H
                          obtain ⟨Ao91, co91, eo91⟩ := Kd.R_slice HO_12.out
                          subst eo91
                          obtain ⟨Ao92, co92, eo92⟩ := Kd.S_slice HO_9.out
                          subst eo92
                          go_wp2_with (first | (go_at_call 14; (with_reducible refine (frisketref08_Same.calls k3 _ _ x9_3 _ _ t205 false _ ?side1 ?side2 ?side3 ?side4 A84.out).mono ?_); (case side1 => repeat (first | exact (Kd.S_reads' HO_9.out).2.2 | (with_reducible refine Kd.C_alloc ?_ _) | (with_reducible refine Kd.C_drewN ?_ _) | (with_reducible refine Kd.C_drew ?_))); (case side2 => exact (Kd.S_reads' HO_9.out).2.1); (case side3 => repeat (first | exact (Kd.S_reads' HO_7.out).2.2 | (with_reducible refine Kd.C_alloc ?_ _) | (with_reducible refine Kd.C_drewN ?_ _) | (with_reducible refine Kd.C_drew ?_))); (case side4 => exact (Kd.S_reads' HO_7.out).2.1); rintro e w93 ⟨rfl, hb⟩; have n0_ := Aside0.mk (Kd.S_below (by (with_reducible repeat (first | apply Kd.S_alloc | apply Kd.S_drewN | apply Kd.S_drew)); exact HO_7.out) hb); have n1_ := Aside0.mk (Kd.S_below (by (with_reducible repeat (first | apply Kd.S_alloc | apply Kd.S_drewN | apply Kd.S_drew)); exact HO_9.out) hb); have n2_ := Aside0.mk (Kd.R_below (by (with_reducible repeat (first | apply Kd.R_alloc | apply Kd.R_drewN | apply Kd.R_drew)); exact HO_12.out) hb); have n3_ := Aside0.mk (below_step (by repeat (first | (with_reducible first | exact HB.out | apply below_alloc | apply pw_below_drewN | apply below_drew1) | exact HB.out)) hb); clear HO_7; clear HO_9; clear HO_12; clear HB; have HO_7 := n0_; have HO_9 := n1_; have HO_12 := n2_; have HB := n3_; clear n0_ n1_ n2_ n3_; (try clear hb); (try clear hb2); (try clear hk); (try clear hi)))
                          go_ret
                          exact ⟨by first | rfl | (simp [errW_none, errW_some] <;> rfl) | (simp [*, errW_none, errW_some] <;> rfl), by repeat (first | (with_reducible first | exact HB.out | apply below_alloc | apply pw_below_drewN | apply below_drew1) | exact HB.out)⟩
                      · rw [if_neg c83] at H
                        have c83b0 : decide ((wrap64 (x15_3 - x14_3)) ≤ 1) = false := decide_eq_false c83
                        clear c83
                        obtain rfl := Option.some.inj H
                        obtain ⟨Ao94, co94, eo94⟩ := Kd.R_slice HO_12.out
                        subst eo94
                        go_wp2
                        go_ret
                        exact ⟨by first | rfl | (simp [errW_none, errW_some] <;> rfl) | (simp [*, errW_none, errW_some] <;> rfl), by repeat (first | (with_reducible first | exact HB.out | apply below_alloc | apply pw_below_drewN | apply below_drew1) | exact HB.out)⟩

/-- THE ONE PURE STATEMENT of frisketlaw11_FillEnds: yours. -/
def frisketlaw11_FillEnds.Pure : Prop := ∀ (l0 : List Int) (a1 : Int) (a2 : Bool), l0.length ≤ maxLen → l0.length * 8 ≤ 140737488351232 → (∀ x ∈ l0, (Lit.int .i64 x).wf = true) → (Lit.int .i64 a1).wf = true → ∃ k, frisketlaw11_FillEnds.f k l0 a1 a2 = some true
theorem frisketlaw11_FillEnds.walk (P : frisketlaw11_FillEnds.Pure) (a0 : Option Addr) (len0 cap0 : Nat) (z0 : List Int) (a1 : Int) (a2 : Bool) (w : World) (w0 : (a0 = none ∧ len0 = 0 ∧ cap0 = 0 ∧ z0 = []) ∨ ∃ x, a0 = some x ∧ len0 ≤ cap0 ∧ cap0 ≤ maxLen ∧ z0.length = cap0 ∧ (∀ i, i < z0.length → w.cell? (x.add i) = some (.int .i64 (z0.getD i 0))) ∧ ∀ n ∈ z0, (Lit.int .i64 n).wf = true) (y0 : len0 * 8 ≤ 140737488351232) (w1 : (Lit.int .i64 a1).wf = true) :
    Calls Try.prog 3 #[.slice a0 len0 cap0, .int .i64 a1, .bool a2] w fun e w' => e = .returned (.bool true) ∧ Below w.heap.size w w' := by
  obtain ⟨l0, rfl, hr0, hm0, hw0, hc0⟩ := ReadsInt.ofRowC w0
  obtain ⟨k, h⟩ := P l0 a1 a2 hm0 y0 hw0 w1
  refine (frisketlaw11_FillEnds.calls k _ _ l0 a1 a2 true w (Kd.C_of_reads (d := (0 : Int)) (h1 := fun _ => rfl) hr0) hc0 h).mono ?_
  rintro e w' ⟨rfl, hd⟩
  exact ⟨rfl, hd⟩

end Go.Proofs.Yteadghhmoggjnaa.Q
end
