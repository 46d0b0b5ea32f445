import Derived.Test.YteadghhmoggjnaaFF2
import Derived.Test.YteadghhmoggjnaaFF3
import Derived.Test.YteadghhmoggjnaaFF13
import Derived.Test.YteadghhmoggjnaaFF16
import Derived.Test.YteadghhmoggjnaaFF17
import Derived.Test.YteadghhmoggjnaaFF18
import Derived.Test.YteadghhmoggjnaaFF19
import Derived.Test.YteadghhmoggjnaaFF20
section
namespace Go.Proofs.Yteadghhmoggjnaa.Q
open Go.RowKit Go.Proofs.YteadghhmoggjnaaW.PrintWords Go.Proofs.YteadghhmoggjnaaW.PrintLast Go.Proofs.YteadghhmoggjnaaW.PrintMore
attribute [local go_sem] max2_int max_two
set_option linter.unusedVariables false
set_option linter.unusedSimpArgs false
/-! ### frisketlaw11_FillFits: function 7 -/
mutual
def frisketlaw11_FillFits.l0 : Nat → Int → List (List (S33)) → Int → Option (Bool)
 | 0, _, _, _ => none
 | k + 1, x6, x7, x9 => if x9 < (x7.length : Int) then (if 0 ≤ x9 then (frisketlaw11_FillFits.l1 k x6 x7 x9 (rd_L4 x7 x9)) else (none)) else ((frisketlaw11_sane.f).bind fun t399 => (some t399))
def frisketlaw11_FillFits.j2 : Nat → Int → List (List (S33)) → Int → List (S33) → Option (Bool)
 | 0, _, _, _, _ => none
 | k + 1, x6, x7, x9, x10 => (frisketref08_Width.f k x10).bind fun t408 => (if t408 > x6 then ((frisketref11_Words.f k x10).bind fun t409 => (if (t409.length : Int) = 1 then ((frisketlaw11_places.f k x10).bind fun t412 => (if (t412.length : Int) > 0 then (some false) else (frisketlaw11_FillFits.l0 k x6 x7 (wrap64 (x9 + 1))))) else (some false))) else (frisketlaw11_FillFits.l0 k x6 x7 (wrap64 (x9 + 1))))
def frisketlaw11_FillFits.l1 : Nat → Int → List (List (S33)) → Int → List (S33) → Option (Bool)
 | 0, _, _, _, _ => none
 | k + 1, x6, x7, x9, x10 => if (x10.length : Int) > 0 then (if 0 ≤ (wrap64 ((x10.length : Int) - 1)) then (if (wrap64 ((x10.length : Int) - 1)) < (x10.length : Int) then ((frisketref11_Blank.f ((rd_T33 x10 (wrap64 ((x10.length : Int) - 1))).f0) ((rd_T33 x10 (wrap64 ((x10.length : Int) - 1))).f1) ((rd_T33 x10 (wrap64 ((x10.length : Int) - 1))).f2) ((rd_T33 x10 (wrap64 ((x10.length : Int) - 1))).f3) ((rd_T33 x10 (wrap64 ((x10.length : Int) - 1))).f4) ((rd_T33 x10 (wrap64 ((x10.length : Int) - 1))).f5) ((rd_T33 x10 (wrap64 ((x10.length : Int) - 1))).f6)).bind fun t402 => (if t402 = true then (if (wrap64 ((x10.length : Int) - 1)) ≤ (x10.length : Int) then (frisketlaw11_FillFits.l1 k x6 x7 x9 (x10.take ((wrap64 ((x10.length : Int) - 1)) : Int).toNat)) else (none)) else (frisketlaw11_FillFits.j2 k x6 x7 x9 x10))) else (none)) else (none)) else (frisketlaw11_FillFits.j2 k x6 x7 x9 x10)
end
def frisketlaw11_FillFits.f (k : Nat) (l0 : List Int) (a1 : Int) : Option (Bool) := (frisketlaw11_Row.f k l0).bind fun t389 => ((frisketlaw11_plain.f k t389).bind fun t392 => ((fill_Break.f k t392 (wrap64 (Int.tmod (IntKind.u64.wrap (a1)) 200)) (wrap64 (Int.tmod (IntKind.u64.wrap (a1)) 200)) 5 0 0 0 (⟨#[]⟩ : ByteArray) (⟨#[]⟩ : ByteArray) ([] : List Int)).bind fun bt395 => (if bt395.2 = 0 then (frisketlaw11_FillFits.l0 k (wrap64 (Int.tmod (IntKind.u64.wrap (a1)) 200)) bt395.1 0) else (some false))))
set_option maxHeartbeats 8000000 in
set_option maxRecDepth 100000 in
theorem frisketlaw11_FillFits.calls (k : Nat) (A0 : Option Addr) (c0 : Nat) (l0 : List Int) (a1 : Int) (r : Bool) (w : World) (hr0 : Kd.C (Kd.int .i64) w A0 l0.length l0) (hc0 : l0.length ≤ c0) (h : frisketlaw11_FillFits.f k l0 a1 = some r) :
  Calls Try.prog 7 #[.slice A0 l0.length c0, .int .i64 a1] w fun e w' => e = .returned (.bool r) ∧ Below w.heap.size w w' := by
 have hu33 := Try.underlying33
 have HR0 := Aside0.mk hr0
 have HC0 := Aside0.mk hc0
 clear hr0 hc0
 have HB := Aside0.mk (Below.refl w.heap.size w)
 have H : ((frisketlaw11_Row.f k l0).bind fun t389 => ((frisketlaw11_plain.f k t389).bind fun t392 => ((fill_Break.f k t392 (wrap64 (Int.tmod (IntKind.u64.wrap (a1)) 200)) (wrap64 (Int.tmod (IntKind.u64.wrap (a1)) 200)) 5 0 0 0 (⟨#[]⟩ : ByteArray) (⟨#[]⟩ : ByteArray) ([] : List Int)).bind fun bt395 => (if bt395.2 = 0 then (frisketlaw11_FillFits.l0 k (wrap64 (Int.tmod (IntKind.u64.wrap (a1)) 200)) bt395.1 0) else (some false))))) = some r := h
 clear h
 replace H := Option.bind_eq_some_iff.mp H
 obtain ⟨t389, A30, H⟩ := H
 replace H : ((frisketlaw11_plain.f k t389).bind fun t392 => ((fill_Break.f k t392 (wrap64 (Int.tmod (IntKind.u64.wrap (a1)) 200)) (wrap64 (Int.tmod (IntKind.u64.wrap (a1)) 200)) 5 0 0 0 (⟨#[]⟩ : ByteArray) (⟨#[]⟩ : ByteArray) ([] : List Int)).bind fun bt395 => (if bt395.2 = 0 then (frisketlaw11_FillFits.l0 k (wrap64 (Int.tmod (IntKind.u64.wrap (a1)) 200)) bt395.1 0) else (some false)))) = some r := H
 have A3 := Aside0.mk A30
 clear A30
 replace H := Option.bind_eq_some_iff.mp H
 obtain ⟨t392, A40, H⟩ := H
 replace H : ((fill_Break.f k t392 (wrap64 (Int.tmod (IntKind.u64.wrap (a1)) 200)) (wrap64 (Int.tmod (IntKind.u64.wrap (a1)) 200)) 5 0 0 0 (⟨#[]⟩ : ByteArray) (⟨#[]⟩ : ByteArray) ([] : List Int)).bind fun bt395 => (if bt395.2 = 0 then (frisketlaw11_FillFits.l0 k (wrap64 (Int.tmod (IntKind.u64.wrap (a1)) 200)) bt395.1 0) else (some false))) = some r := H
 have A4 := Aside0.mk A40
 clear A40
 replace H := Option.bind_eq_some_iff.mp H
 obtain ⟨⟨t395, t398⟩, A50, H⟩ := H
 replace H : (if t398 = 0 then (frisketlaw11_FillFits.l0 k (wrap64 (Int.tmod (IntKind.u64.wrap (a1)) 200)) t395 0) else (some false)) = some r := H
 have A5 := Aside0.mk A50
 clear A50
 by_cases c6 : t398 = 0
 ·rw [if_pos c6] at H
  have c6b0 : (t398 == 0) = true := beq_iff_eq.mpr c6
  have c6b1 : (t398 != 0) = false := bne_eq_false_iff_eq.mpr c6
  clear c6
  have H' := Aside0.mk H
  clear H
  go_enter Try.func7, Try.ntmps7
  go_wp2_with (first | ((with_reducible refine gate_callee (f := 10) rfl ?_); refine goesL_ (some 12) rfl rfl Try.func10 (by kernel_rfl) rfl #[.slice A0 l0.length c0] rfl (by (try simp only [List.map_toArray, List.map_cons, List.map_nil]); first | done | rfl | (simp only [List.length_drop, List.length_take]; rfl)) ?_; (with_reducible refine (frisketlaw11_Row.calls k _ _ l0 t389 _ ?side1 ?side2 A3.out).mono ?_); (case side1 => repeat (first | exact HR0.out | (with_reducible refine Kd.C_alloc ?_ _) | (with_reducible refine Kd.C_drewN ?_ _) | (with_reducible refine Kd.C_drew ?_))); (case side2 => exact HC0.out); rintro e w7 ⟨v390, rfl, ho0, hb⟩; refine ⟨_, rfl, ?_⟩; have n0_ := Aside0.mk (Kd.N_lower (Kd.N_mono (ok' := fun k_ => True) (Kd.S_N (Kd.S_bound ho0)) (fun k_ hk_ => trivial)) (below_size (by repeat (first | (with_reducible first | exact HB.out | apply below_alloc | apply pw_below_drewN | apply below_drew1) | exact HB.out)))); have n1_ := Aside0.mk (below_step (by repeat (first | (with_reducible first | exact HB.out | apply below_alloc | apply pw_below_drewN | apply below_drew1) | exact HB.out)) hb); clear HB; have HO391 := n0_; have HB := n1_; clear n0_ n1_; (try clear hb); (try clear hb2); (try clear hk); (try clear hi); (try clear ho0); obtain ⟨Ao8, co8, eo8⟩ := Kd.N_slice HO391.out; subst eo8) | ((with_reducible refine gate_callee (f := 21) rfl ?_); refine goesL_ (some 13) rfl rfl Try.func21 (by kernel_rfl) rfl #[.slice Ao8 t389.length co8] rfl (by (try simp only [List.map_toArray, List.map_cons, List.map_nil]); first | done | rfl | (simp only [List.length_drop, List.length_take]; rfl)) ?_; (with_reducible refine (frisketlaw11_plain.calls k (fun k_ => True) _ _ t389 t392 _ ?side1 A4.out).mono ?_); (case side1 => exact Kd.N_V (HO391.out)); rintro e w9 ⟨v393, rfl, ho0, hb⟩; refine ⟨_, rfl, ?_⟩; have n0_ := Aside0.mk (Kd.N_elder' (by (with_reducible repeat (first | apply Kd.N_alloc | apply Kd.N_drewN | apply Kd.N_drew)); exact HO391.out) (by first | exact Kd.N_base ho0 | exact Kd.S_base ho0 | exact Kd.R_base ho0) hb); have n1_ := Aside0.mk (Kd.N_lower (Kd.N_mono (ok' := fun k_ => True) (by first | exact ho0 | exact Kd.R_N ho0) (fun k_ hk_ => trivial)) (below_size (by repeat (first | (with_reducible first | exact HB.out | apply below_alloc | apply pw_below_drewN | apply below_drew1) | exact HB.out)))); have n2_ := Aside0.mk (below_step (by repeat (first | (with_reducible first | exact HB.out | apply below_alloc | apply pw_below_drewN | apply below_drew1) | exact HB.out)) hb); clear HO391; clear HB; have HO391 := n0_; have HO394 := n1_; have HB := n2_; clear n0_ n1_ n2_; (try clear hb); (try clear hb2); (try clear hk); (try clear hi); (try clear ho0); obtain ⟨Ao10, co10, eo10⟩ := Kd.N_slice HO394.out; subst eo10) | ((with_reducible refine gate_callee (f := 19) rfl ?_); refine goesL_ (some 23) rfl rfl Try.func19 (by kernel_rfl) rfl #[.slice Ao10 t392.length co10, .int .i64 (wrap64 (Int.tmod (IntKind.u64.wrap (a1)) 200)), .int .i64 (wrap64 (Int.tmod (IntKind.u64.wrap (a1)) 200)), .agg #[.int .i64 5, .int .i64 0, .int .i64 0, .int .i64 0, .string (⟨#[]⟩ : ByteArray), .string (⟨#[]⟩ : ByteArray), .slice none 0 0]] rfl (by (try simp only [List.map_toArray, List.map_cons, List.map_nil]); first | done | rfl | (simp only [List.length_drop, List.length_take]; rfl)) ?_; (refine (fill_Break.calls k (fun k_ => True) _ _ t392 (wrap64 (Int.tmod (IntKind.u64.wrap (a1)) 200)) (wrap64 (Int.tmod (IntKind.u64.wrap (a1)) 200)) 5 0 0 0 (⟨#[]⟩ : ByteArray) (⟨#[]⟩ : ByteArray) (fun k_ => False) _ _ ([] : List Int) t395 t398 _ ?side1 ?side2 A5.out).mono ?_); (case side1 => exact Kd.N_V (HO394.out)); (case side2 => exact Kd.V_nil _ _ _ _ _); rintro e w11 ⟨v396, rfl, ho0, hb⟩; refine ⟨_, rfl, ?_⟩; have n0_ := Aside0.mk (Kd.N_elder' (by (with_reducible repeat (first | apply Kd.N_alloc | apply Kd.N_drewN | apply Kd.N_drew)); exact HO391.out) (by first | exact Kd.N_base ho0 | exact Kd.S_base ho0 | exact Kd.R_base ho0) hb); have n1_ := Aside0.mk (Kd.N_elder' (by (with_reducible repeat (first | apply Kd.N_alloc | apply Kd.N_drewN | apply Kd.N_drew)); exact HO394.out) (by first | exact Kd.N_base ho0 | exact Kd.S_base ho0 | exact Kd.R_base ho0) hb); have n2_ := Aside0.mk (Kd.N_lower (Kd.N_mono (ok' := fun k_ => True) (by first | exact ho0 | exact Kd.R_N ho0) (fun k_ hk_ => trivial)) (below_size (by repeat (first | (with_reducible first | exact HB.out | apply below_alloc | apply pw_below_drewN | apply below_drew1) | exact HB.out)))); have n3_ := Aside0.mk (below_step (by repeat (first | (with_reducible first | exact HB.out | apply below_alloc | apply pw_below_drewN | apply below_drew1) | exact HB.out)) hb); clear HO391; clear HO394; clear HB; have HO391 := n0_; have HO394 := n1_; have HO397 := n2_; have HB := n3_; clear n0_ n1_ n2_ n3_; (try clear hb); (try clear hb2); (try clear hk); (try clear hi); (try clear ho0)))
  go_loopg [9] k (fun kq v9 w' => ∃ (x9_1 : Int), v9 = .int .i64 x9_1 ∧ Aside0 (frisketlaw11_FillFits.l0 kq (wrap64 (Int.tmod (IntKind.u64.wrap (a1)) 200)) t395 x9_1 = some r) ∧ Aside0 (kq ≤ k) ∧ Aside0 (Kd.N (Kd.slice 33 k33) 23 w' w.heap.size (fun _ => True) v396 t395) ∧ Aside0 (Below w.heap.size w w'))
  case atStart => exact ⟨(0), (by first | rfl | (simp; done) | (simp [*]; done)), H', ⟨Nat.le_refl _⟩, ⟨by (with_reducible repeat (first | apply Kd.N_alloc | apply Kd.N_drewN | apply Kd.N_drew)); exact HO397.out⟩, ⟨by repeat (first | (with_reducible first | exact HB.out | apply below_alloc | apply pw_below_drewN | apply below_drew1) | exact HB.out)⟩⟩
  case round =>
   clear H'
   try clear c1
   try clear c2
   try clear p2
   try clear c6
   try clear c6b0
   try clear c6b1
   try clear p6
   try clear c7
   try clear c10
   obtain ⟨x9_1, rfl, HA, HK1, HO_7, HB⟩ := hrel
   cases gk with
   | zero => exact absurd HA.out (by simp [frisketlaw11_FillFits.l0])
   | succ k1 =>
    have H := HA.out
    clear HA
    simp only [frisketlaw11_FillFits.l0] at H
    by_cases c12 : x9_1 < (t395.length : Int)
    ·rw [if_pos c12] at H
     have c12b0 : decide (x9_1 < (t395.length : Int)) = true := decide_eq_true c12
     clear c12
     by_cases c13 : 0 ≤ x9_1
     ·rw [if_pos c13] at H
      have c13b0 : decide (0 ≤ x9_1) = true := decide_eq_true c13
      clear c13
      have HC14 := Aside0.mk H
      clear H
      obtain ⟨Ao15, co15, eo15⟩ := Kd.N_slice HO_7.out
      subst eo15
      have p400 : 0 ≤ (x9_1 : Int) := of_decide_eq_true (by first | (with_reducible assumption) | assumption)
      have q400 : x9_1 < (t395.length : Int) := of_decide_eq_true (by first | (with_reducible assumption) | assumption)
      obtain ⟨ad400, A400_0, c400_0, e400, hx400_0, hl400_0, hi400_0⟩ := at_L4 (Kd.N_reads' HO_7.out).2.2 x9_1 p400 q400
      cases e400
      obtain ⟨ce400, hce400, hMe400, hcc400⟩ := Kd.N_get HO_7.out [] x9_1 p400 (by first | exact q400 | exact of_decide_eq_true (by first | (with_reducible assumption) | assumption) | (have e_ := (Kd.N_reads' HO_7.out).1; omega))
      obtain ⟨ua400_0, uc400_0, rfl, ul400_0, ge400_0⟩ := Kd.FK_slice_open hMe400
      have hv400_0 := hcc400 0 _ rfl
      rw [Nat.add_zero, show ((Kd.slice 33 k33)).sz = 1 from rfl, Nat.mul_one] at hv400_0
      replace hv400_0 := Option.some.inj (hv400_0.symm.trans hx400_0)
      injection hv400_0 with hva_ hvn_ hvc_
      rw [hva_] at ge400_0
      rw [hvc_] at ul400_0
      have HL400_0 := Aside0.mk (show Kd.V k33 33 _ w.heap.size _ _ (rd_L4 t395 x9_1) from Kd.V_mk ul400_0 ge400_0)
      clear hva_ hvn_ hvc_ ge400_0 ul400_0
      clear hcc400 hce400
      have HR400_0 := Aside0.mk hi400_0
      have HC400_0 := Aside0.mk hl400_0
      clear hi400_0 hl400_0
      replace p400 := eq_true p400
      replace q400 := eq_true q400
      go_upto_block 2 with (fail)
      go_cut [10] (fun v10 wc => ∃ (kq : Nat) (x10_13 : List (S33)), Aside0 (frisketlaw11_FillFits.j2 kq (wrap64 (Int.tmod (IntKind.u64.wrap (a1)) 200)) t395 x9_1 x10_13 = some r) ∧ Aside0 (kq ≤ k1) ∧ Aside0 (Kd.N (Kd.slice 33 k33) 23 wc w.heap.size (fun _ => True) (.slice (some ad400) t395.length co15) t395) ∧ Aside0 (Kd.V k33 33 wc w.heap.size (fun k_ => some k_ ≠ ((.slice (some ad400) t395.length co15) : Value).ownBlock) v10 x10_13) ∧ Aside0 (Kd.C k33 wc A400_0 (rd_L4 t395 x9_1).length (rd_L4 t395 x9_1)) ∧ Aside0 (Below w.heap.size w wc))
      case first =>
       have H := HC14.out
       clear HC14
       have H' := Aside0.mk H
       clear H
       go_wp2
       go_loopg [10] k1 (fun kq v10 w' => ∃ (x10_2 : List (S33)), Aside0 (frisketlaw11_FillFits.l1 kq (wrap64 (Int.tmod (IntKind.u64.wrap (a1)) 200)) t395 x9_1 x10_2 = some r) ∧ Aside0 (kq ≤ k1) ∧ Aside0 (Kd.N (Kd.slice 33 k33) 23 w' w.heap.size (fun _ => True) (.slice (some ad400) t395.length co15) t395) ∧ Aside0 (Kd.V k33 33 w' w.heap.size (fun k_ => some k_ ≠ ((.slice (some ad400) t395.length co15) : Value).ownBlock) v10 x10_2) ∧ Aside0 (Kd.C k33 w' A400_0 (rd_L4 t395 x9_1).length (rd_L4 t395 x9_1)) ∧ Aside0 (Below w.heap.size w w'))
       case atStart => exact ⟨(rd_L4 t395 x9_1), H', ⟨Nat.le_refl _⟩, ⟨by (with_reducible repeat (first | apply Kd.N_alloc | apply Kd.N_drewN | apply Kd.N_drew)); exact HO_7.out⟩, ⟨by (with_reducible repeat (first | apply Kd.V_alloc | apply Kd.V_drewN | apply Kd.V_drew)); exact Kd.V_mono HL400_0.out (fun _ hk => hk.2)⟩, ⟨by repeat (first | (with_reducible exact HR400_0.out) | (with_reducible refine Kd.C_alloc ?_ _) | (with_reducible refine Kd.C_drewN ?_ _) | (with_reducible refine Kd.C_drew ?_) | exact HR400_0.out)⟩, ⟨by repeat (first | (with_reducible first | exact HB.out | apply below_alloc | apply pw_below_drewN | apply below_drew1) | exact HB.out)⟩⟩
       case round =>
        clear H'
        try clear c1
        try clear c2
        try clear p2
        try clear c4
        try clear p4
        try clear q4
        try clear hx4
        try clear c6
        try clear c6b0
        try clear c6b1
        try clear p6
        try clear c7
        try clear c10
        try clear c12
        try clear c12b0
        try clear c13
        try clear c13b0
        try clear hx400_0
        try clear p2
        try clear p400
        try clear p6
        try clear q400
        obtain ⟨x10_2, HA, HK2, HO_7, HO_10, HR400_0, HB⟩ := hrel
        cases gk with
        | zero => exact absurd HA.out (by simp [frisketlaw11_FillFits.l1])
        | succ k2 =>
         have H := HA.out
         clear HA
         simp only [frisketlaw11_FillFits.l1] at H
         by_cases c16 : (x10_2.length : Int) > 0
         ·rw [if_pos c16] at H
          have c16b0 : decide (0 < (x10_2.length : Int)) = true := decide_eq_true c16
          have c16b1 : decide (0 < x10_2.length) = true := decide_eq_true (by omega)
          clear c16
          (first | rw [c16b0] | (simp only [i64_w, i32_w]; rw [c16b0]) | skip)
          obtain ⟨ji17, hji17⟩ : ∃ j_ : Int, (wrap64 ((x10_2.length : Int) - 1)) = j_ := ⟨_, rfl⟩
          replace H : (if 0 ≤ (ji17) then (if (ji17) < (x10_2.length : Int) then ((frisketref11_Blank.f ((rd_T33 x10_2 (ji17)).f0) ((rd_T33 x10_2 (ji17)).f1) ((rd_T33 x10_2 (ji17)).f2) ((rd_T33 x10_2 (ji17)).f3) ((rd_T33 x10_2 (ji17)).f4) ((rd_T33 x10_2 (ji17)).f5) ((rd_T33 x10_2 (ji17)).f6)).bind fun t402 => (if t402 = true then (if (ji17) ≤ (x10_2.length : Int) then (frisketlaw11_FillFits.l1 k2 (wrap64 (Int.tmod (IntKind.u64.wrap (a1)) 200)) t395 x9_1 (x10_2.take ((ji17) : Int).toNat)) else (none)) else (frisketlaw11_FillFits.j2 k2 (wrap64 (Int.tmod (IntKind.u64.wrap (a1)) 200)) t395 x9_1 x10_2))) else (none)) else (none)) = some r := by first | (rw [hji17] at H; exact H) | (simp only [hji17] at H ⊢; exact H)
          have hji17w : (IntKind.i64.wrap ((x10_2.length : Int) - 1)) = ji17 := (i64_w _).trans hji17
          by_cases c18 : 0 ≤ (ji17)
          ·rw [if_pos c18] at H
           have c18b0 : decide (0 ≤ (ji17)) = true := decide_eq_true c18
           clear c18
           by_cases c19 : (ji17) < (x10_2.length : Int)
           ·rw [if_pos c19] at H
            have c19b0 : decide ((ji17) < (x10_2.length : Int)) = true := decide_eq_true c19
            clear c19
            replace H := Option.bind_eq_some_iff.mp H
            obtain ⟨t402, A200, H⟩ := H
            replace H : (if t402 = true then (if (ji17) ≤ (x10_2.length : Int) then (frisketlaw11_FillFits.l1 k2 (wrap64 (Int.tmod (IntKind.u64.wrap (a1)) 200)) t395 x9_1 (x10_2.take ((ji17) : Int).toNat)) else (none)) else (frisketlaw11_FillFits.j2 k2 (wrap64 (Int.tmod (IntKind.u64.wrap (a1)) 200)) t395 x9_1 x10_2)) = some r := H
            have A20 := Aside0.mk A200
            clear A200
            by_cases c21 : t402 = true
            ·subst c21
             have H1 : (if (ji17) ≤ (x10_2.length : Int) then (frisketlaw11_FillFits.l1 k2 (wrap64 (Int.tmod (IntKind.u64.wrap (a1)) 200)) t395 x9_1 (x10_2.take ((ji17) : Int).toNat)) else (none)) = some r := by rw [if_pos rfl] at H; exact H
             clear H
             have H := H1
             clear H1
             have c22b0 := eq_true (of_decide_eq_true (by first | (with_reducible assumption) | assumption) : 0 ≤ (ji17))
             by_cases c23 : (ji17) ≤ (x10_2.length : Int)
             ·rw [if_pos c23] at H
              have c23b0 := eq_true c23
              have c23b1 : decide ((ji17) ≤ (x10_2.length : Int)) = true := decide_eq_true c23
              clear c23
              obtain ⟨y403, hy403⟩ : ∃ y_ : List (S33), y_ = (x10_2.take ((ji17) : Int).toNat) := ⟨_, rfl⟩
              replace H : (frisketlaw11_FillFits.l1 k2 (wrap64 (Int.tmod (IntKind.u64.wrap (a1)) 200)) t395 x9_1 y403) = some r := by first | (rw [hy403]; with_reducible exact H) | (have H2_ := (Option.bind_some _ _).symm.trans H; rw [hy403]; with_reducible exact H2_) | (have H2_ := (Option.bind_some _ _).symm.trans H; with_reducible exact H2_) | with_reducible exact H | (rw [hy403]; exact H) | exact H
              have Ny403 := Aside0.mk hy403
              clear hy403
              have H' := Aside0.mk H
              clear H
              obtain ⟨Ao24, co24, eo24⟩ := Kd.V_slice HO_10.out
              subst eo24
              have p401 : 0 ≤ ((ji17) : Int) := of_decide_eq_true (by first | (with_reducible assumption) | assumption)
              have q401 : (ji17) < (x10_2.length : Int) := of_decide_eq_true (by first | (with_reducible assumption) | assumption)
              obtain ⟨ad401, A401_6, c401_6, e401, hx401_0, hx401_1, hx401_2, hx401_3, hx401_4, hx401_5, hx401_6, hl401_6, hi401_6⟩ := at_T33 (Kd.V_reads' HO_10.out).2.2 (ji17) p401 q401
              cases e401
              obtain ⟨ce401, hce401, hMe401, hcc401⟩ := Kd.V_get HO_10.out z33 (ji17) p401 (by first | exact q401 | exact of_decide_eq_true (by first | (with_reducible assumption) | assumption) | (have e_ := (Kd.V_reads' HO_10.out).1; omega))
              obtain ⟨ua401_6, uc401_6, rfl, ul401_6, ge401_6⟩ := k33_openF hMe401
              have hv401_6 := hcc401 6 _ rfl
              rw [add_field _ _ 6 (by omega)] at hv401_6
              replace hv401_6 := Option.some.inj (hv401_6.symm.trans hx401_6)
              injection hv401_6 with hva_ hvn_ hvc_
              rw [hva_] at ge401_6
              rw [hvc_] at ul401_6
              have HL401_6 := Aside0.mk (show Kd.V (Kd.int .i64) 3 _ w.heap.size _ _ ((rd_T33 x10_2 (ji17)).f6) from Kd.V_mk ul401_6 ge401_6)
              clear hva_ hvn_ hvc_ ge401_6 ul401_6
              clear hcc401 hce401
              have HR401_6 := Aside0.mk hi401_6
              have HC401_6 := Aside0.mk hl401_6
              clear hi401_6 hl401_6
              replace p401 := eq_true p401
              replace q401 := eq_true q401
              go_wp2_with (first | (go_at_call 22; (with_reducible refine (frisketref11_Blank.calls ((rd_T33 x10_2 (ji17)).f0) ((rd_T33 x10_2 (ji17)).f1) ((rd_T33 x10_2 (ji17)).f2) ((rd_T33 x10_2 (ji17)).f3) ((rd_T33 x10_2 (ji17)).f4) ((rd_T33 x10_2 (ji17)).f5) _ _ ((rd_T33 x10_2 (ji17)).f6) true _ ?side1 ?side2 A20.out).mono ?_); (case side1 => repeat (first | exact (by repeat (first | (with_reducible exact HR401_6.out) | (with_reducible refine Kd.C_alloc ?_ _) | (with_reducible refine Kd.C_drewN ?_ _) | (with_reducible refine Kd.C_drew ?_) | exact HR401_6.out)) | (with_reducible refine Kd.C_alloc ?_ _) | (with_reducible refine Kd.C_drewN ?_ _) | (with_reducible refine Kd.C_drew ?_))); (case side2 => exact HC401_6.out); rintro e w25 ⟨rfl, hb⟩; have n0_ := Aside0.mk (Kd.N_below (by (with_reducible repeat (first | apply Kd.N_alloc | apply Kd.N_drewN | apply Kd.N_drew)); exact HO_7.out) hb); have n1_ := Aside0.mk (Kd.V_below (by (with_reducible repeat (first | apply Kd.V_alloc | apply Kd.V_drewN | apply Kd.V_drew)); exact HO_10.out) hb); have n2_ := Aside0.mk (Kd.V_below (by (with_reducible repeat (first | apply Kd.V_alloc | apply Kd.V_drewN | apply Kd.V_drew)); exact HL401_6.out) hb); have n3_ := Aside0.mk (Kd.C_below (by repeat (first | (with_reducible exact HR400_0.out) | (with_reducible refine Kd.C_alloc ?_ _) | (with_reducible refine Kd.C_drewN ?_ _) | (with_reducible refine Kd.C_drew ?_) | exact HR400_0.out)) hb); have n4_ := Aside0.mk (Kd.C_below (by repeat (first | (with_reducible exact HR401_6.out) | (with_reducible refine Kd.C_alloc ?_ _) | (with_reducible refine Kd.C_drewN ?_ _) | (with_reducible refine Kd.C_drew ?_) | exact HR401_6.out)) hb); have n5_ := Aside0.mk (below_step (by repeat (first | (with_reducible first | exact HB.out | apply below_alloc | apply pw_below_drewN | apply below_drew1) | exact HB.out)) hb); clear HO_7; clear HO_10; clear HL401_6; clear HR400_0; clear HR401_6; clear HB; have HO_7 := n0_; have HO_10 := n1_; have HL401_6 := n2_; have HR400_0 := n3_; have HR401_6 := n4_; have HB := n5_; clear n0_ n1_ n2_ n3_ n4_ n5_; (try clear hb); (try clear hb2); (try clear hk); (try clear hi); have q26 : ((ji17) : Int) ≤ ((x10_2.length : Int) : Int) := of_decide_eq_true (by first | (with_reducible assumption) | assumption); obtain ⟨i026, hi026, _, hsz26, _⟩ := info_parts info33; have hroom26 : x10_2.length ≤ co24 := (Kd.V_reads' HO_10.out).2.1; have hC26 : Kd.F k33 _ _ (some ad401) x10_2.length x10_2 := (Kd.V_at (base := w.heap.size) HO_10.out).2.2; have hcut26 := cut_to (P := Try.prog) 23 33 .i64 Try.underlying23 hi026 (some ad401) x10_2.length co24 (ji17) (of_decide_eq_true (by first | (with_reducible assumption) | assumption)) q26 hroom26; have hr26 := Kd.F_take (m := ((ji17) : Int).toNat) hC26 (by omega); have hy26 : y403.length = ((ji17) : Int).toNat := (by rw [Ny403.out, List.length_take]; omega); rw [← Ny403.out] at hr26; rw [← hy26] at hcut26; have HO407 := Aside0.mk (show Kd.V k33 33 _ w.heap.size _ (.slice (some ad401) y403.length co24) y403 from Kd.V_mk (by omega) hr26); have HC407 := Aside0.mk (show y403.length ≤ co24 from by omega); clear hr26 hC26 hroom26 hi026 hsz26; have KY26 := Aside0.mk hy26; clear hy26; replace q26 := eq_true q26))
              go_roundg k2
              case measure => have := HK1.out; have := HK2.out; omega
              case rel => exact ⟨(y403), H', ⟨by have := HK1.out; have := HK2.out; omega⟩, ⟨by (with_reducible repeat (first | apply Kd.N_alloc | apply Kd.N_drewN | apply Kd.N_drew)); exact HO_7.out⟩, ⟨by (with_reducible repeat (first | apply Kd.V_alloc | apply Kd.V_drewN | apply Kd.V_drew)); exact HO407.out⟩, ⟨by repeat (first | (with_reducible exact HR400_0.out) | (with_reducible refine Kd.C_alloc ?_ _) | (with_reducible refine Kd.C_drewN ?_ _) | (with_reducible refine Kd.C_drew ?_) | exact HR400_0.out)⟩, ⟨by repeat (first | (with_reducible first | exact HB.out | apply below_alloc | apply pw_below_drewN | apply below_drew1) | exact HB.out)⟩⟩
             ·rw [if_neg c23] at H
              exact absurd H (by simp)
            ·replace c21 := Bool.eq_false_iff.mpr c21
             subst c21
             have H1 : (frisketlaw11_FillFits.j2 k2 (wrap64 (Int.tmod (IntKind.u64.wrap (a1)) 200)) t395 x9_1 x10_2) = some r := by rw [if_neg (show ¬ (false = true) by decide)] at H; exact H
             clear H
             have H := H1
             clear H1
             have H' := Aside0.mk H
             clear H
             obtain ⟨Ao27, co27, eo27⟩ := Kd.V_slice HO_10.out
             subst eo27
             have p401 : 0 ≤ ((ji17) : Int) := of_decide_eq_true (by first | (with_reducible assumption) | assumption)
             have q401 : (ji17) < (x10_2.length : Int) := of_decide_eq_true (by first | (with_reducible assumption) | assumption)
             obtain ⟨ad401, A401_6, c401_6, e401, hx401_0, hx401_1, hx401_2, hx401_3, hx401_4, hx401_5, hx401_6, hl401_6, hi401_6⟩ := at_T33 (Kd.V_reads' HO_10.out).2.2 (ji17) p401 q401
             cases e401
             obtain ⟨ce401, hce401, hMe401, hcc401⟩ := Kd.V_get HO_10.out z33 (ji17) p401 (by first | exact q401 | exact of_decide_eq_true (by first | (with_reducible assumption) | assumption) | (have e_ := (Kd.V_reads' HO_10.out).1; omega))
             obtain ⟨ua401_6, uc401_6, rfl, ul401_6, ge401_6⟩ := k33_openF hMe401
             have hv401_6 := hcc401 6 _ rfl
             rw [add_field _ _ 6 (by omega)] at hv401_6
             replace hv401_6 := Option.some.inj (hv401_6.symm.trans hx401_6)
             injection hv401_6 with hva_ hvn_ hvc_
             rw [hva_] at ge401_6
             rw [hvc_] at ul401_6
             have HL401_6 := Aside0.mk (show Kd.V (Kd.int .i64) 3 _ w.heap.size _ _ ((rd_T33 x10_2 (ji17)).f6) from Kd.V_mk ul401_6 ge401_6)
             clear hva_ hvn_ hvc_ ge401_6 ul401_6
             clear hcc401 hce401
             have HR401_6 := Aside0.mk hi401_6
             have HC401_6 := Aside0.mk hl401_6
             clear hi401_6 hl401_6
             replace p401 := eq_true p401
             replace q401 := eq_true q401
             go_wp2_with (first | (go_at_call 22; (with_reducible refine (frisketref11_Blank.calls ((rd_T33 x10_2 (ji17)).f0) ((rd_T33 x10_2 (ji17)).f1) ((rd_T33 x10_2 (ji17)).f2) ((rd_T33 x10_2 (ji17)).f3) ((rd_T33 x10_2 (ji17)).f4) ((rd_T33 x10_2 (ji17)).f5) _ _ ((rd_T33 x10_2 (ji17)).f6) false _ ?side1 ?side2 A20.out).mono ?_); (case side1 => repeat (first | exact (by repeat (first | (with_reducible exact HR401_6.out) | (with_reducible refine Kd.C_alloc ?_ _) | (with_reducible refine Kd.C_drewN ?_ _) | (with_reducible refine Kd.C_drew ?_) | exact HR401_6.out)) | (with_reducible refine Kd.C_alloc ?_ _) | (with_reducible refine Kd.C_drewN ?_ _) | (with_reducible refine Kd.C_drew ?_))); (case side2 => exact HC401_6.out); rintro e w28 ⟨rfl, hb⟩; have n0_ := Aside0.mk (Kd.N_below (by (with_reducible repeat (first | apply Kd.N_alloc | apply Kd.N_drewN | apply Kd.N_drew)); exact HO_7.out) hb); have n1_ := Aside0.mk (Kd.V_below (by (with_reducible repeat (first | apply Kd.V_alloc | apply Kd.V_drewN | apply Kd.V_drew)); exact HO_10.out) hb); have n2_ := Aside0.mk (Kd.V_below (by (with_reducible repeat (first | apply Kd.V_alloc | apply Kd.V_drewN | apply Kd.V_drew)); exact HL401_6.out) hb); have n3_ := Aside0.mk (Kd.C_below (by repeat (first | (with_reducible exact HR400_0.out) | (with_reducible refine Kd.C_alloc ?_ _) | (with_reducible refine Kd.C_drewN ?_ _) | (with_reducible refine Kd.C_drew ?_) | exact HR400_0.out)) hb); have n4_ := Aside0.mk (Kd.C_below (by repeat (first | (with_reducible exact HR401_6.out) | (with_reducible refine Kd.C_alloc ?_ _) | (with_reducible refine Kd.C_drewN ?_ _) | (with_reducible refine Kd.C_drew ?_) | exact HR401_6.out)) hb); have n5_ := Aside0.mk (below_step (by repeat (first | (with_reducible first | exact HB.out | apply below_alloc | apply pw_below_drewN | apply below_drew1) | exact HB.out)) hb); clear HO_7; clear HO_10; clear HL401_6; clear HR400_0; clear HR401_6; clear HB; have HO_7 := n0_; have HO_10 := n1_; have HL401_6 := n2_; have HR400_0 := n3_; have HR401_6 := n4_; have HB := n5_; clear n0_ n1_ n2_ n3_ n4_ n5_; (try clear hb); (try clear hb2); (try clear hk); (try clear hi)))
             go_meet
             case rel => exact ⟨_, (x10_2), H', ⟨by have := HK1.out; have := HK2.out; first | omega | exact Nat.le_refl _⟩, ⟨by (with_reducible repeat (first | apply Kd.N_alloc | apply Kd.N_drewN | apply Kd.N_drew)); exact HO_7.out⟩, ⟨by (with_reducible repeat (first | apply Kd.V_alloc | apply Kd.V_drewN | apply Kd.V_drew)); exact HO_10.out⟩, ⟨by repeat (first | (with_reducible exact HR400_0.out) | (with_reducible refine Kd.C_alloc ?_ _) | (with_reducible refine Kd.C_drewN ?_ _) | (with_reducible refine Kd.C_drew ?_) | exact HR400_0.out)⟩, ⟨by repeat (first | (with_reducible first | exact HB.out | apply below_alloc | apply pw_below_drewN | apply below_drew1) | exact HB.out)⟩⟩
           ·rw [if_neg c19] at H
            exact absurd H (by simp)
          ·rw [if_neg c18] at H
           exact absurd H (by simp)
         ·rw [if_neg c16] at H
          have c16b0 : decide (0 < (x10_2.length : Int)) = false := decide_eq_false c16
          have c16b1 : decide (0 < x10_2.length) = false := decide_eq_false (by omega)
          clear c16
          (first | rw [c16b0] | (simp only [i64_w, i32_w]; rw [c16b0]) | skip)
          have H' := Aside0.mk H
          clear H
          obtain ⟨Ao29, co29, eo29⟩ := Kd.V_slice HO_10.out
          subst eo29
          go_wp2
          go_meet
          case rel => exact ⟨_, (x10_2), H', ⟨by have := HK1.out; have := HK2.out; first | omega | exact Nat.le_refl _⟩, ⟨by (with_reducible repeat (first | apply Kd.N_alloc | apply Kd.N_drewN | apply Kd.N_drew)); exact HO_7.out⟩, ⟨by (with_reducible repeat (first | apply Kd.V_alloc | apply Kd.V_drewN | apply Kd.V_drew)); exact HO_10.out⟩, ⟨by repeat (first | (with_reducible exact HR400_0.out) | (with_reducible refine Kd.C_alloc ?_ _) | (with_reducible refine Kd.C_drewN ?_ _) | (with_reducible refine Kd.C_drew ?_) | exact HR400_0.out)⟩, ⟨by repeat (first | (with_reducible first | exact HB.out | apply below_alloc | apply pw_below_drewN | apply below_drew1) | exact HB.out)⟩⟩
      case rest =>
       clear HC14
       try clear c1
       try clear c2
       try clear p2
       try clear q2
       try clear c4
       try clear p4
       try clear q4
       try clear hx4
       try clear c6
       try clear c6b0
       try clear c6b1
       try clear p6
       try clear c7
       try clear c10
       try clear c12
       try clear c12b0
       try clear c13
       try clear c13b0
       try clear c16
       try clear c16b0
       try clear c16b1
       try clear c18
       try clear c18b0
       try clear c19
       try clear c19b0
       try clear c21
       try clear c22
       try clear c22b0
       try clear c23
       try clear c23b0
       try clear c23b1
       try clear q26
       try clear hx400_0
       try clear hx401_0
       try clear hx401_1
       try clear hx401_2
       try clear hx401_3
       try clear hx401_4
       try clear hx401_5
       try clear hx401_6
       try clear p2
       try clear p4
       try clear p400
       try clear p401
       try clear p6
       try clear q26
       try clear q4
       try clear q400
       try clear q401
       obtain ⟨kq, x10_13, HA, HJ13, HO_7, HO_10, HR400_0, HB⟩ := hcut
       cases kq with
       | zero => exact absurd HA.out (by simp [frisketlaw11_FillFits.j2])
       | succ kj13 =>
        have H := HA.out
        clear HA
        simp only [frisketlaw11_FillFits.j2] at H
        replace H := Option.bind_eq_some_iff.mp H
        obtain ⟨t408, A300, H⟩ := H
        replace H : (if t408 > (wrap64 (Int.tmod (IntKind.u64.wrap (a1)) 200)) then ((frisketref11_Words.f kj13 x10_13).bind fun t409 => (if (t409.length : Int) = 1 then ((frisketlaw11_places.f kj13 x10_13).bind fun t412 => (if (t412.length : Int) > 0 then (some false) else (frisketlaw11_FillFits.l0 kj13 (wrap64 (Int.tmod (IntKind.u64.wrap (a1)) 200)) t395 (wrap64 (x9_1 + 1))))) else (some false))) else (frisketlaw11_FillFits.l0 kj13 (wrap64 (Int.tmod (IntKind.u64.wrap (a1)) 200)) t395 (wrap64 (x9_1 + 1)))) = some r := H
        have A30 := Aside0.mk A300
        clear A300
        by_cases c31 : t408 > (wrap64 (Int.tmod (IntKind.u64.wrap (a1)) 200))
        ·rw [if_pos c31] at H
         have c31b0 : decide ((wrap64 (Int.tmod (IntKind.u64.wrap (a1)) 200)) < t408) = true := decide_eq_true c31
         clear c31
         replace H := Option.bind_eq_some_iff.mp H
         obtain ⟨t409, A320, H⟩ := H
         replace H : (if (t409.length : Int) = 1 then ((frisketlaw11_places.f kj13 x10_13).bind fun t412 => (if (t412.length : Int) > 0 then (some false) else (frisketlaw11_FillFits.l0 kj13 (wrap64 (Int.tmod (IntKind.u64.wrap (a1)) 200)) t395 (wrap64 (x9_1 + 1))))) else (some false)) = some r := H
         have A32 := Aside0.mk A320
         clear A320
         by_cases c33 : (t409.length : Int) = 1
         ·rw [if_pos c33] at H
          have c33b0 : ((t409.length : Int) == 1) = true := beq_iff_eq.mpr c33
          have c33b1 : ((t409.length : Int) != 1) = false := bne_eq_false_iff_eq.mpr c33
          clear c33
          replace H := Option.bind_eq_some_iff.mp H
          obtain ⟨t412, A340, H⟩ := H
          replace H : (if (t412.length : Int) > 0 then (some false) else (frisketlaw11_FillFits.l0 kj13 (wrap64 (Int.tmod (IntKind.u64.wrap (a1)) 200)) t395 (wrap64 (x9_1 + 1)))) = some r := H
          have A34 := Aside0.mk A340
          clear A340
          by_cases c35 : (t412.length : Int) > 0
          ·rw [if_pos c35] at H
           have c35b0 : decide (0 < (t412.length : Int)) = true := decide_eq_true c35
           have c35b1 : decide (0 < t412.length) = true := decide_eq_true (by omega)
           clear c35
           obtain rfl := Option.some.inj H
           obtain ⟨Ao36, co36, eo36⟩ := Kd.V_slice HO_10.out
           subst eo36
           go_wp2_with (first | ((with_reducible refine gate_callee (f := 13) rfl ?_); refine goesL_ (some 56) rfl rfl Try.func13 (by kernel_rfl) rfl #[.slice Ao36 x10_13.length co36] rfl (by (try simp only [List.map_toArray, List.map_cons, List.map_nil]); first | done | rfl | (simp only [List.length_drop, List.length_take]; rfl)) ?_; (with_reducible refine (frisketref08_Width.calls kj13 _ _ x10_13 t408 _ ?side1 ?side2 A30.out).mono ?_); (case side1 => repeat (first | exact (Kd.V_reads' HO_10.out).2.2 | (with_reducible refine Kd.C_alloc ?_ _) | (with_reducible refine Kd.C_drewN ?_ _) | (with_reducible refine Kd.C_drew ?_))); (case side2 => exact (Kd.V_reads' HO_10.out).2.1); rintro e w' ⟨rfl, ⟨nd, rfl⟩⟩; refine ⟨_, rfl, ?_⟩) | (go_at_call 23; (with_reducible refine (frisketref11_Words.calls kj13 _ _ x10_13 t409 _ ?side1 ?side2 A32.out).mono ?_); (case side1 => repeat (first | exact (Kd.V_reads' HO_10.out).2.2 | (with_reducible refine Kd.C_alloc ?_ _) | (with_reducible refine Kd.C_drewN ?_ _) | (with_reducible refine Kd.C_drew ?_))); (case side2 => exact (Kd.V_reads' HO_10.out).2.1); rintro e w37 ⟨v410, rfl, ho0, hb⟩; have n0_ := Aside0.mk (Kd.N_elder' (by (with_reducible repeat (first | apply Kd.N_alloc | apply Kd.N_drewN | apply Kd.N_drew)); exact HO_7.out) (by first | exact Kd.N_base ho0 | exact Kd.S_base ho0 | exact Kd.R_base ho0) hb); have n1_ := Aside0.mk (Kd.V_elder' (by (with_reducible repeat (first | apply Kd.V_alloc | apply Kd.V_drewN | apply Kd.V_drew)); exact HO_10.out) (by first | exact Kd.N_base ho0 | exact Kd.S_base ho0 | exact Kd.R_base ho0) hb); have n2_ := Aside0.mk (Kd.N_lower (Kd.N_mono (ok' := fun k_ => some k_ ≠ (.slice (some ad400) t395.length co15 : Value).ownBlock) (Kd.R_N (Kd.R_bound ho0)) (fun k_ hk_ => (Kd.fresh' (Kd.N_lt (by (with_reducible repeat (first | apply Kd.N_alloc | apply Kd.N_drewN | apply Kd.N_drew)); exact HO_7.out)) k_ hk_.2.1))) (below_size (by repeat (first | (with_reducible first | exact HB.out | apply below_alloc | apply pw_below_drewN | apply below_drew1) | exact HB.out)))); have n3_ := Aside0.mk (Kd.C_below (by repeat (first | (with_reducible exact HR400_0.out) | (with_reducible refine Kd.C_alloc ?_ _) | (with_reducible refine Kd.C_drewN ?_ _) | (with_reducible refine Kd.C_drew ?_) | exact HR400_0.out)) hb); have n4_ := Aside0.mk (below_step (by repeat (first | (with_reducible first | exact HB.out | apply below_alloc | apply pw_below_drewN | apply below_drew1) | exact HB.out)) hb); clear HO_7; clear HO_10; clear HR400_0; clear HB; have HO_7 := n0_; have HO_10 := n1_; have HO411 := n2_; have HR400_0 := n3_; have HB := n4_; clear n0_ n1_ n2_ n3_ n4_; (try clear hb); (try clear hb2); (try clear hk); (try clear hi); (try clear ho0); obtain ⟨Ao38, co38, eo38⟩ := Kd.N_slice HO411.out; subst eo38) | (go_at_call 24; (with_reducible refine (frisketlaw11_places.calls kj13 _ _ x10_13 t412 _ ?side1 ?side2 A34.out).mono ?_); (case side1 => repeat (first | exact (Kd.V_reads' HO_10.out).2.2 | (with_reducible refine Kd.C_alloc ?_ _) | (with_reducible refine Kd.C_drewN ?_ _) | (with_reducible refine Kd.C_drew ?_))); (case side2 => exact (Kd.V_reads' HO_10.out).2.1); rintro e w39 ⟨v413, rfl, ho0, hb⟩; have n0_ := Aside0.mk (Kd.N_elder' (by (with_reducible repeat (first | apply Kd.N_alloc | apply Kd.N_drewN | apply Kd.N_drew)); exact HO_7.out) (Kd.R_base ho0) hb); have n1_ := Aside0.mk (Kd.V_elder' (by (with_reducible repeat (first | apply Kd.V_alloc | apply Kd.V_drewN | apply Kd.V_drew)); exact HO_10.out) (Kd.R_base ho0) hb); have n2_ := Aside0.mk (Kd.N_elder' (by (with_reducible repeat (first | apply Kd.N_alloc | apply Kd.N_drewN | apply Kd.N_drew)); exact HO411.out) (Kd.R_base ho0) hb); have n3_ := Aside0.mk (Kd.R_lower ho0 (below_size (by repeat (first | (with_reducible first | exact HB.out | apply below_alloc | apply pw_below_drewN | apply below_drew1) | exact HB.out)))); have n4_ := Aside0.mk (Kd.C_below (by repeat (first | (with_reducible exact HR400_0.out) | (with_reducible refine Kd.C_alloc ?_ _) | (with_reducible refine Kd.C_drewN ?_ _) | (with_reducible refine Kd.C_drew ?_) | exact HR400_0.out)) hb); have n5_ := Aside0.mk (below_step (by repeat (first | (with_reducible first | exact HB.out | apply below_alloc | apply pw_below_drewN | apply below_drew1) | exact HB.out)) hb); clear HO_7; clear HO_10; clear HO411; clear HR400_0; clear HB; have HO_7 := n0_; have HO_10 := n1_; have HO411 := n2_; have HO414 := n3_; have HR400_0 := n4_; have HB := n5_; clear n0_ n1_ n2_ n3_ n4_ n5_; (try clear hb); (try clear hb2); (try clear hk); (try clear hi); (try clear ho0); obtain ⟨Ao40, co40, eo40⟩ := Kd.R_slice HO414.out; subst eo40))
           go_ret
           exact ⟨by first | rfl | (simp [errW_none, errW_some] <;> rfl) | (simp [*, errW_none, errW_some] <;> rfl), by repeat (first | (with_reducible first | exact HB.out | apply below_alloc | apply pw_below_drewN | apply below_drew1) | exact HB.out)⟩
          ·rw [if_neg c35] at H
           have c35b0 : decide (0 < (t412.length : Int)) = false := decide_eq_false c35
           have c35b1 : decide (0 < t412.length) = false := decide_eq_false (by omega)
           clear c35
           have H' := Aside0.mk H
           clear H
           obtain ⟨Ao41, co41, eo41⟩ := Kd.V_slice HO_10.out
           subst eo41
           go_wp2_with (first | ((with_reducible refine gate_callee (f := 13) rfl ?_); refine goesL_ (some 56) rfl rfl Try.func13 (by kernel_rfl) rfl #[.slice Ao41 x10_13.length co41] rfl (by (try simp only [List.map_toArray, List.map_cons, List.map_nil]); first | done | rfl | (simp only [List.length_drop, List.length_take]; rfl)) ?_; (with_reducible refine (frisketref08_Width.calls kj13 _ _ x10_13 t408 _ ?side1 ?side2 A30.out).mono ?_); (case side1 => repeat (first | exact (Kd.V_reads' HO_10.out).2.2 | (with_reducible refine Kd.C_alloc ?_ _) | (with_reducible refine Kd.C_drewN ?_ _) | (with_reducible refine Kd.C_drew ?_))); (case side2 => exact (Kd.V_reads' HO_10.out).2.1); rintro e w' ⟨rfl, ⟨nd, rfl⟩⟩; refine ⟨_, rfl, ?_⟩) | (go_at_call 23; (with_reducible refine (frisketref11_Words.calls kj13 _ _ x10_13 t409 _ ?side1 ?side2 A32.out).mono ?_); (case side1 => repeat (first | exact (Kd.V_reads' HO_10.out).2.2 | (with_reducible refine Kd.C_alloc ?_ _) | (with_reducible refine Kd.C_drewN ?_ _) | (with_reducible refine Kd.C_drew ?_))); (case side2 => exact (Kd.V_reads' HO_10.out).2.1); rintro e w42 ⟨v410, rfl, ho0, hb⟩; have n0_ := Aside0.mk (Kd.N_elder' (by (with_reducible repeat (first | apply Kd.N_alloc | apply Kd.N_drewN | apply Kd.N_drew)); exact HO_7.out) (by first | exact Kd.N_base ho0 | exact Kd.S_base ho0 | exact Kd.R_base ho0) hb); have n1_ := Aside0.mk (Kd.V_elder' (by (with_reducible repeat (first | apply Kd.V_alloc | apply Kd.V_drewN | apply Kd.V_drew)); exact HO_10.out) (by first | exact Kd.N_base ho0 | exact Kd.S_base ho0 | exact Kd.R_base ho0) hb); have n2_ := Aside0.mk (Kd.N_lower (Kd.N_mono (ok' := fun k_ => some k_ ≠ (.slice (some ad400) t395.length co15 : Value).ownBlock) (Kd.R_N (Kd.R_bound ho0)) (fun k_ hk_ => (Kd.fresh' (Kd.N_lt (by (with_reducible repeat (first | apply Kd.N_alloc | apply Kd.N_drewN | apply Kd.N_drew)); exact HO_7.out)) k_ hk_.2.1))) (below_size (by repeat (first | (with_reducible first | exact HB.out | apply below_alloc | apply pw_below_drewN | apply below_drew1) | exact HB.out)))); have n3_ := Aside0.mk (Kd.C_below (by repeat (first | (with_reducible exact HR400_0.out) | (with_reducible refine Kd.C_alloc ?_ _) | (with_reducible refine Kd.C_drewN ?_ _) | (with_reducible refine Kd.C_drew ?_) | exact HR400_0.out)) hb); have n4_ := Aside0.mk (below_step (by repeat (first | (with_reducible first | exact HB.out | apply below_alloc | apply pw_below_drewN | apply below_drew1) | exact HB.out)) hb); clear HO_7; clear HO_10; clear HR400_0; clear HB; have HO_7 := n0_; have HO_10 := n1_; have HO411 := n2_; have HR400_0 := n3_; have HB := n4_; clear n0_ n1_ n2_ n3_ n4_; (try clear hb); (try clear hb2); (try clear hk); (try clear hi); (try clear ho0); obtain ⟨Ao43, co43, eo43⟩ := Kd.N_slice HO411.out; subst eo43) | (go_at_call 24; (with_reducible refine (frisketlaw11_places.calls kj13 _ _ x10_13 t412 _ ?side1 ?side2 A34.out).mono ?_); (case side1 => repeat (first | exact (Kd.V_reads' HO_10.out).2.2 | (with_reducible refine Kd.C_alloc ?_ _) | (with_reducible refine Kd.C_drewN ?_ _) | (with_reducible refine Kd.C_drew ?_))); (case side2 => exact (Kd.V_reads' HO_10.out).2.1); rintro e w44 ⟨v413, rfl, ho0, hb⟩; have n0_ := Aside0.mk (Kd.N_elder' (by (with_reducible repeat (first | apply Kd.N_alloc | apply Kd.N_drewN | apply Kd.N_drew)); exact HO_7.out) (Kd.R_base ho0) hb); have n1_ := Aside0.mk (Kd.V_elder' (by (with_reducible repeat (first | apply Kd.V_alloc | apply Kd.V_drewN | apply Kd.V_drew)); exact HO_10.out) (Kd.R_base ho0) hb); have n2_ := Aside0.mk (Kd.N_elder' (by (with_reducible repeat (first | apply Kd.N_alloc | apply Kd.N_drewN | apply Kd.N_drew)); exact HO411.out) (Kd.R_base ho0) hb); have n3_ := Aside0.mk (Kd.R_lower ho0 (below_size (by repeat (first | (with_reducible first | exact HB.out | apply below_alloc | apply pw_below_drewN | apply below_drew1) | exact HB.out)))); have n4_ := Aside0.mk (Kd.C_below (by repeat (first | (with_reducible exact HR400_0.out) | (with_reducible refine Kd.C_alloc ?_ _) | (with_reducible refine Kd.C_drewN ?_ _) | (with_reducible refine Kd.C_drew ?_) | exact HR400_0.out)) hb); have n5_ := Aside0.mk (below_step (by repeat (first | (with_reducible first | exact HB.out | apply below_alloc | apply pw_below_drewN | apply below_drew1) | exact HB.out)) hb); clear HO_7; clear HO_10; clear HO411; clear HR400_0; clear HB; have HO_7 := n0_; have HO_10 := n1_; have HO411 := n2_; have HO414 := n3_; have HR400_0 := n4_; have HB := n5_; clear n0_ n1_ n2_ n3_ n4_ n5_; (try clear hb); (try clear hb2); (try clear hk); (try clear hi); (try clear ho0); obtain ⟨Ao45, co45, eo45⟩ := Kd.R_slice HO414.out; subst eo45))
           go_roundg kj13
           case measure => have := HK1.out; have := HJ13.out; omega
           case rel => exact ⟨(wrap64 (x9_1 + 1)), (by first | rfl | (simp; done) | (simp [*]; done)), H', ⟨by have := HK1.out; have := HJ13.out; omega⟩, ⟨by (with_reducible repeat (first | apply Kd.N_alloc | apply Kd.N_drewN | apply Kd.N_drew)); exact Kd.N_mono HO_7.out (fun _ hk => trivial)⟩, ⟨by repeat (first | (with_reducible first | exact HB.out | apply below_alloc | apply pw_below_drewN | apply below_drew1) | exact HB.out)⟩⟩
         ·rw [if_neg c33] at H
          have c33b0 : ((t409.length : Int) == 1) = false := beq_eq_false_iff_ne.mpr c33
          have c33b1 : ((t409.length : Int) != 1) = true := bne_iff_ne.mpr c33
          obtain rfl := Option.some.inj H
          obtain ⟨Ao46, co46, eo46⟩ := Kd.V_slice HO_10.out
          subst eo46
          go_wp2_with (first | ((with_reducible refine gate_callee (f := 13) rfl ?_); refine goesL_ (some 56) rfl rfl Try.func13 (by kernel_rfl) rfl #[.slice Ao46 x10_13.length co46] rfl (by (try simp only [List.map_toArray, List.map_cons, List.map_nil]); first | done | rfl | (simp only [List.length_drop, List.length_take]; rfl)) ?_; (with_reducible refine (frisketref08_Width.calls kj13 _ _ x10_13 t408 _ ?side1 ?side2 A30.out).mono ?_); (case side1 => repeat (first | exact (Kd.V_reads' HO_10.out).2.2 | (with_reducible refine Kd.C_alloc ?_ _) | (with_reducible refine Kd.C_drewN ?_ _) | (with_reducible refine Kd.C_drew ?_))); (case side2 => exact (Kd.V_reads' HO_10.out).2.1); rintro e w' ⟨rfl, ⟨nd, rfl⟩⟩; refine ⟨_, rfl, ?_⟩) | (go_at_call 23; (with_reducible refine (frisketref11_Words.calls kj13 _ _ x10_13 t409 _ ?side1 ?side2 A32.out).mono ?_); (case side1 => repeat (first | exact (Kd.V_reads' HO_10.out).2.2 | (with_reducible refine Kd.C_alloc ?_ _) | (with_reducible refine Kd.C_drewN ?_ _) | (with_reducible refine Kd.C_drew ?_))); (case side2 => exact (Kd.V_reads' HO_10.out).2.1); rintro e w47 ⟨v410, rfl, ho0, hb⟩; have n0_ := Aside0.mk (Kd.N_elder' (by (with_reducible repeat (first | apply Kd.N_alloc | apply Kd.N_drewN | apply Kd.N_drew)); exact HO_7.out) (by first | exact Kd.N_base ho0 | exact Kd.S_base ho0 | exact Kd.R_base ho0) hb); have n1_ := Aside0.mk (Kd.V_elder' (by (with_reducible repeat (first | apply Kd.V_alloc | apply Kd.V_drewN | apply Kd.V_drew)); exact HO_10.out) (by first | exact Kd.N_base ho0 | exact Kd.S_base ho0 | exact Kd.R_base ho0) hb); have n2_ := Aside0.mk (Kd.N_lower (Kd.N_mono (ok' := fun k_ => some k_ ≠ (.slice (some ad400) t395.length co15 : Value).ownBlock) (Kd.R_N (Kd.R_bound ho0)) (fun k_ hk_ => (Kd.fresh' (Kd.N_lt (by (with_reducible repeat (first | apply Kd.N_alloc | apply Kd.N_drewN | apply Kd.N_drew)); exact HO_7.out)) k_ hk_.2.1))) (below_size (by repeat (first | (with_reducible first | exact HB.out | apply below_alloc | apply pw_below_drewN | apply below_drew1) | exact HB.out)))); have n3_ := Aside0.mk (Kd.C_below (by repeat (first | (with_reducible exact HR400_0.out) | (with_reducible refine Kd.C_alloc ?_ _) | (with_reducible refine Kd.C_drewN ?_ _) | (with_reducible refine Kd.C_drew ?_) | exact HR400_0.out)) hb); have n4_ := Aside0.mk (below_step (by repeat (first | (with_reducible first | exact HB.out | apply below_alloc | apply pw_below_drewN | apply below_drew1) | exact HB.out)) hb); clear HO_7; clear HO_10; clear HR400_0; clear HB; have HO_7 := n0_; have HO_10 := n1_; have HO411 := n2_; have HR400_0 := n3_; have HB := n4_; clear n0_ n1_ n2_ n3_ n4_; (try clear hb); (try clear hb2); (try clear hk); (try clear hi); (try clear ho0); obtain ⟨Ao48, co48, eo48⟩ := Kd.N_slice HO411.out; subst eo48))
          go_ret
          exact ⟨by first | rfl | (simp [errW_none, errW_some] <;> rfl) | (simp [*, errW_none, errW_some] <;> rfl), by repeat (first | (with_reducible first | exact HB.out | apply below_alloc | apply pw_below_drewN | apply below_drew1) | exact HB.out)⟩
        ·rw [if_neg c31] at H
         have c31b0 : decide ((wrap64 (Int.tmod (IntKind.u64.wrap (a1)) 200)) < t408) = false := decide_eq_false c31
         clear c31
         have H' := Aside0.mk H
         clear H
         obtain ⟨Ao49, co49, eo49⟩ := Kd.V_slice HO_10.out
         subst eo49
         go_wp2_with (first | ((with_reducible refine gate_callee (f := 13) rfl ?_); refine goesL_ (some 56) rfl rfl Try.func13 (by kernel_rfl) rfl #[.slice Ao49 x10_13.length co49] rfl (by (try simp only [List.map_toArray, List.map_cons, List.map_nil]); first | done | rfl | (simp only [List.length_drop, List.length_take]; rfl)) ?_; (with_reducible refine (frisketref08_Width.calls kj13 _ _ x10_13 t408 _ ?side1 ?side2 A30.out).mono ?_); (case side1 => repeat (first | exact (Kd.V_reads' HO_10.out).2.2 | (with_reducible refine Kd.C_alloc ?_ _) | (with_reducible refine Kd.C_drewN ?_ _) | (with_reducible refine Kd.C_drew ?_))); (case side2 => exact (Kd.V_reads' HO_10.out).2.1); rintro e w' ⟨rfl, ⟨nd, rfl⟩⟩; refine ⟨_, rfl, ?_⟩))
         go_roundg kj13
         case measure => have := HK1.out; have := HJ13.out; omega
         case rel => exact ⟨(wrap64 (x9_1 + 1)), (by first | rfl | (simp; done) | (simp [*]; done)), H', ⟨by have := HK1.out; have := HJ13.out; omega⟩, ⟨by (with_reducible repeat (first | apply Kd.N_alloc | apply Kd.N_drewN | apply Kd.N_drew)); exact HO_7.out⟩, ⟨by repeat (first | (with_reducible first | exact HB.out | apply below_alloc | apply pw_below_drewN | apply below_drew1) | exact HB.out)⟩⟩
     ·rw [if_neg c13] at H
      exact absurd H (by simp)
    ·rw [if_neg c12] at H
     have c12b0 : decide (x9_1 < (t395.length : Int)) = false := decide_eq_false c12
     clear c12
     replace H := Option.bind_eq_some_iff.mp H
     obtain ⟨t399, A500, H⟩ := H
     replace H : (some t399) = some r := H
     have A50 := Aside0.mk A500
     clear A500
     obtain rfl := Option.some.inj H
     obtain ⟨Ao51, co51, eo51⟩ := Kd.N_slice HO_7.out
     subst eo51
     go_wp2_with (first | ((with_reducible refine gate_callee (f := 15) rfl ?_); refine goesL_ (some 71) rfl rfl Try.func15 (by kernel_rfl) rfl #[] rfl (by (try simp only [List.map_toArray, List.map_cons, List.map_nil]); first | done | rfl | (simp only [List.length_drop, List.length_take]; rfl)) ?_; (with_reducible refine (frisketlaw11_sane.calls  t399 _ A50.out).mono ?_); rintro e w52 ⟨rfl, hb⟩; refine ⟨_, rfl, ?_⟩; have n0_ := Aside0.mk (Kd.N_below (by (with_reducible repeat (first | apply Kd.N_alloc | apply Kd.N_drewN | apply Kd.N_drew)); exact HO_7.out) hb); have n1_ := Aside0.mk (below_step (by repeat (first | (with_reducible first | exact HB.out | apply below_alloc | apply pw_below_drewN | apply below_drew1) | exact HB.out)) hb); clear HO_7; clear HB; have HO_7 := n0_; have HB := n1_; clear n0_ n1_; (try clear hb); (try clear hb2); (try clear hk); (try clear hi)))
     go_ret
     exact ⟨by first | rfl | (simp [errW_none, errW_some] <;> rfl) | (simp [*, errW_none, errW_some] <;> rfl), by repeat (first | (with_reducible first | exact HB.out | apply below_alloc | apply pw_below_drewN | apply below_drew1) | exact HB.out)⟩
 ·rw [if_neg c6] at H
  have c6b0 : (t398 == 0) = false := beq_eq_false_iff_ne.mpr c6
  have c6b1 : (t398 != 0) = true := bne_iff_ne.mpr c6
  obtain rfl := Option.some.inj H
  go_enter Try.func7, Try.ntmps7
  go_wp2_with (first | ((with_reducible refine gate_callee (f := 10) rfl ?_); refine goesL_ (some 12) rfl rfl Try.func10 (by kernel_rfl) rfl #[.slice A0 l0.length c0] rfl (by (try simp only [List.map_toArray, List.map_cons, List.map_nil]); first | done | rfl | (simp only [List.length_drop, List.length_take]; rfl)) ?_; (with_reducible refine (frisketlaw11_Row.calls k _ _ l0 t389 _ ?side1 ?side2 A3.out).mono ?_); (case side1 => repeat (first | exact HR0.out | (with_reducible refine Kd.C_alloc ?_ _) | (with_reducible refine Kd.C_drewN ?_ _) | (with_reducible refine Kd.C_drew ?_))); (case side2 => exact HC0.out); rintro e w53 ⟨v390, rfl, ho0, hb⟩; refine ⟨_, rfl, ?_⟩; have n0_ := Aside0.mk (Kd.N_lower (Kd.N_mono (ok' := fun k_ => True) (Kd.S_N (Kd.S_bound ho0)) (fun k_ hk_ => trivial)) (below_size (by repeat (first | (with_reducible first | exact HB.out | apply below_alloc | apply pw_below_drewN | apply below_drew1) | exact HB.out)))); have n1_ := Aside0.mk (below_step (by repeat (first | (with_reducible first | exact HB.out | apply below_alloc | apply pw_below_drewN | apply below_drew1) | exact HB.out)) hb); clear HB; have HO391 := n0_; have HB := n1_; clear n0_ n1_; (try clear hb); (try clear hb2); (try clear hk); (try clear hi); (try clear ho0); obtain ⟨Ao54, co54, eo54⟩ := Kd.N_slice HO391.out; subst eo54) | ((with_reducible refine gate_callee (f := 21) rfl ?_); refine goesL_ (some 13) rfl rfl Try.func21 (by kernel_rfl) rfl #[.slice Ao54 t389.length co54] rfl (by (try simp only [List.map_toArray, List.map_cons, List.map_nil]); first | done | rfl | (simp only [List.length_drop, List.length_take]; rfl)) ?_; (with_reducible refine (frisketlaw11_plain.calls k (fun k_ => True) _ _ t389 t392 _ ?side1 A4.out).mono ?_); (case side1 => exact Kd.N_V (HO391.out)); rintro e w55 ⟨v393, rfl, ho0, hb⟩; refine ⟨_, rfl, ?_⟩; have n0_ := Aside0.mk (Kd.N_elder' (by (with_reducible repeat (first | apply Kd.N_alloc | apply Kd.N_drewN | apply Kd.N_drew)); exact HO391.out) (by first | exact Kd.N_base ho0 | exact Kd.S_base ho0 | exact Kd.R_base ho0) hb); have n1_ := Aside0.mk (Kd.N_lower (Kd.N_mono (ok' := fun k_ => True) (by first | exact ho0 | exact Kd.R_N ho0) (fun k_ hk_ => trivial)) (below_size (by repeat (first | (with_reducible first | exact HB.out | apply below_alloc | apply pw_below_drewN | apply below_drew1) | exact HB.out)))); have n2_ := Aside0.mk (below_step (by repeat (first | (with_reducible first | exact HB.out | apply below_alloc | apply pw_below_drewN | apply below_drew1) | exact HB.out)) hb); clear HO391; clear HB; have HO391 := n0_; have HO394 := n1_; have HB := n2_; clear n0_ n1_ n2_; (try clear hb); (try clear hb2); (try clear hk); (try clear hi); (try clear ho0); obtain ⟨Ao56, co56, eo56⟩ := Kd.N_slice HO394.out; subst eo56) | ((with_reducible refine gate_callee (f := 19) rfl ?_); refine goesL_ (some 23) rfl rfl Try.func19 (by kernel_rfl) rfl #[.slice Ao56 t392.length co56, .int .i64 (wrap64 (Int.tmod (IntKind.u64.wrap (a1)) 200)), .int .i64 (wrap64 (Int.tmod (IntKind.u64.wrap (a1)) 200)), .agg #[.int .i64 5, .int .i64 0, .int .i64 0, .int .i64 0, .string (⟨#[]⟩ : ByteArray), .string (⟨#[]⟩ : ByteArray), .slice none 0 0]] rfl (by (try simp only [List.map_toArray, List.map_cons, List.map_nil]); first | done | rfl | (simp only [List.length_drop, List.length_take]; rfl)) ?_; (refine (fill_Break.calls k (fun k_ => True) _ _ t392 (wrap64 (Int.tmod (IntKind.u64.wrap (a1)) 200)) (wrap64 (Int.tmod (IntKind.u64.wrap (a1)) 200)) 5 0 0 0 (⟨#[]⟩ : ByteArray) (⟨#[]⟩ : ByteArray) (fun k_ => False) _ _ ([] : List Int) t395 t398 _ ?side1 ?side2 A5.out).mono ?_); (case side1 => exact Kd.N_V (HO394.out)); (case side2 => exact Kd.V_nil _ _ _ _ _); rintro e w57 ⟨v396, rfl, ho0, hb⟩; refine ⟨_, rfl, ?_⟩; have n0_ := Aside0.mk (Kd.N_elder' (by (with_reducible repeat (first | apply Kd.N_alloc | apply Kd.N_drewN | apply Kd.N_drew)); exact HO391.out) (by first | exact Kd.N_base ho0 | exact Kd.S_base ho0 | exact Kd.R_base ho0) hb); have n1_ := Aside0.mk (Kd.N_elder' (by (with_reducible repeat (first | apply Kd.N_alloc | apply Kd.N_drewN | apply Kd.N_drew)); exact HO394.out) (by first | exact Kd.N_base ho0 | exact Kd.S_base ho0 | exact Kd.R_base ho0) hb); have n2_ := Aside0.mk (Kd.N_lower (Kd.N_mono (ok' := fun k_ => True) (by first | exact ho0 | exact Kd.R_N ho0) (fun k_ hk_ => trivial)) (below_size (by repeat (first | (with_reducible first | exact HB.out | apply below_alloc | apply pw_below_drewN | apply below_drew1) | exact HB.out)))); have n3_ := Aside0.mk (below_step (by repeat (first | (with_reducible first | exact HB.out | apply below_alloc | apply pw_below_drewN | apply below_drew1) | exact HB.out)) hb); clear HO391; clear HO394; clear HB; have HO391 := n0_; have HO394 := n1_; have HO397 := n2_; have HB := n3_; clear n0_ n1_ n2_ n3_; (try clear hb); (try clear hb2); (try clear hk); (try clear hi); (try clear ho0)))
  go_ret
  exact ⟨by first | rfl | (simp [errW_none, errW_some] <;> rfl) | (simp [*, errW_none, errW_some] <;> rfl), by repeat (first | (with_reducible first | exact HB.out | apply below_alloc | apply pw_below_drewN | apply below_drew1) | exact HB.out)⟩
/-- THE ONE PURE STATEMENT of frisketlaw11_FillFits: yours. -/
def frisketlaw11_FillFits.Pure : Prop := ∀ (l0 : List Int) (a1 : Int), l0.length ≤ maxLen → l0.length * 8 ≤ 140737488351232 → (∀ x ∈ l0, (Lit.int .i64 x).wf = true) → (Lit.int .i64 a1).wf = true → ∃ k, frisketlaw11_FillFits.f k l0 a1 = some true
theorem frisketlaw11_FillFits.walk (P : frisketlaw11_FillFits.Pure) (a0 : Option Addr) (len0 cap0 : Nat) (z0 : List Int) (a1 : Int) (w : World) (w0 : (a0 = none ∧ len0 = 0 ∧ cap0 = 0 ∧ z0 = []) ∨ ∃ x, a0 = some x ∧ len0 ≤ cap0 ∧ cap0 ≤ maxLen ∧ z0.length = cap0 ∧ (∀ i, i < z0.length → w.cell? (x.add i) = some (.int .i64 (z0.getD i 0))) ∧ ∀ n ∈ z0, (Lit.int .i64 n).wf = true) (y0 : len0 * 8 ≤ 140737488351232) (w1 : (Lit.int .i64 a1).wf = true) :
  Calls Try.prog 7 #[.slice a0 len0 cap0, .int .i64 a1] w fun e w' => e = .returned (.bool true) ∧ Below w.heap.size w w' := by
 obtain ⟨l0, rfl, hr0, hm0, hw0, hc0⟩ := ReadsInt.ofRowC w0
 obtain ⟨k, h⟩ := P l0 a1 hm0 y0 hw0 w1
 refine (frisketlaw11_FillFits.calls k _ _ l0 a1 true w (Kd.C_of_reads (d := (0 : Int)) (h1 := fun _ => rfl) hr0) hc0 h).mono ?_
 rintro e w' ⟨rfl, hd⟩
 exact ⟨rfl, hd⟩
end Go.Proofs.Yteadghhmoggjnaa.Q
end
