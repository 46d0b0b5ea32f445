import Derived.Test.YteadghhmoggjnaaFM17
set_option linter.unusedVariables false
set_option linter.unusedSimpArgs false
section
namespace Go.Proofs.Yteadghhmoggjnaa.Q
open Go.RowKit YteadghhmoggjnaaW.PrintWords YteadghhmoggjnaaW.PrintLast YteadghhmoggjnaaW.PrintMore
attribute [local go_sem] max2_int max_two
set_option maxHeartbeats 8000000
set_option maxRecDepth 100000
mutual
def s_Valid.j0 : Nat → Bool → Int → Int → Int → Int → ByteArray → ByteArray → List Int → Option (Bool)
 | 0, _, _, _, _, _, _, _, _ => none
 | k + 1, x24, hh0, hh1, hh2, hh3, hh4, hh5, hh6 => if x24 = true then (some false) else (if hh5.toList = ([] : List UInt8) then (s_Valid.j1 k ((hh6.length : Int) == 0) hh0 hh1 hh2 hh3 hh4 hh5 hh6) else (s_Valid.j1 k false hh0 hh1 hh2 hh3 hh4 hh5 hh6))
def s_Valid.j1 : Nat → Bool → Int → Int → Int → Int → ByteArray → ByteArray → List Int → Option (Bool)
 | 0, _, _, _, _, _, _, _, _ => none
 | k + 1, x3, hh0, hh1, hh2, hh3, hh4, hh5, hh6 => if hh2 = 0 then (if hh3 = 0 then (s_Valid.j2 k x3 (hh4.toList == ([] : List UInt8)) hh0 hh1 hh2 hh3 hh4 hh5 hh6) else (s_Valid.j2 k x3 false hh0 hh1 hh2 hh3 hh4 hh5 hh6)) else (s_Valid.j2 k x3 false hh0 hh1 hh2 hh3 hh4 hh5 hh6)
def s_Valid.j2 : Nat → Bool → Bool → Int → Int → Int → Int → ByteArray → ByteArray → List Int → Option (Bool)
 | 0, _, _, _, _, _, _, _, _, _ => none
 | k + 1, x3, x4, hh0, hh1, hh2, hh3, hh4, hh5, hh6 => if hh0 = 0 then ((s_IsName.f k hh4).bind fun t416 => (if t416 = true then ((s_colour.f k hh5).bind fun t417 => (if t417 = true then (some ((hh6.length : Int) == 0)) else (some false))) else (some false))) else (if hh0 = 1 then (if x3 = true then (if hh4.toList = ([] : List UInt8) then (some true) else (some (hh4.toList == ([126] : List UInt8)))) else (some false)) else (if hh0 = 2 then (s_Valid.j3 k x3 x4 hh0 (hh0 == 2) hh0 hh1 hh2 hh3 hh4 hh5 hh6) else (s_Valid.j3 k x3 x4 hh0 (hh0 == 6) hh0 hh1 hh2 hh3 hh4 hh5 hh6)))
def s_Valid.j3 : Nat → Bool → Bool → Int → Bool → Int → Int → Int → Int → ByteArray → ByteArray → List Int → Option (Bool)
 | 0, _, _, _, _, _, _, _, _, _, _, _ => none
 | k + 1, x3, x4, x48, x78, hh0, hh1, hh2, hh3, hh4, hh5, hh6 => if x78 = true then (if x3 = true then (some x4) else (some false)) else (if x48 = 3 then (if x3 = true then (some x4) else (some false)) else (if x48 = 4 then (if (hh6.length : Int) ≤ 40 then (if hh4.toList = ([108] : List UInt8) then (s_Valid.j4 k true hh0 hh1 hh2 hh3 hh4 hh5 hh6) else (if hh4.toList = ([99] : List UInt8) then (s_Valid.j4 k true hh0 hh1 hh2 hh3 hh4 hh5 hh6) else (if hh4.toList = ([101] : List UInt8) then (s_Valid.j4 k true hh0 hh1 hh2 hh3 hh4 hh5 hh6) else (if hh4.toList = ([97] : List UInt8) then (s_Valid.j4 k true hh0 hh1 hh2 hh3 hh4 hh5 hh6) else (s_Valid.j4 k (hh4.toList == ([126] : List UInt8)) hh0 hh1 hh2 hh3 hh4 hh5 hh6))))) else (s_Valid.j4 k false hh0 hh1 hh2 hh3 hh4 hh5 hh6)) else (if x48 = 5 then (if x3 = true then (if x4 = true then (some (hh1 == 0)) else (some false)) else (some false)) else (some false))))
def s_Valid.j4 : Nat → Bool → Int → Int → Int → Int → ByteArray → ByteArray → List Int → Option (Bool)
 | 0, _, _, _, _, _, _, _, _ => none
 | k + 1, x5, hh0, hh1, hh2, hh3, hh4, hh5, hh6 => s_Valid.l0 k x5 0 hh0 hh1 hh2 hh3 hh4 hh5 hh6
def s_Valid.l0 : Nat → Bool → Int → Int → Int → Int → Int → ByteArray → ByteArray → List Int → Option (Bool)
 | 0, _, _, _, _, _, _, _, _, _ => none
 | k + 1, x5, x6, hh0, hh1, hh2, hh3, hh4, hh5, hh6 => if x6 < (hh6.length : Int) then (if x5 = true then (if 0 ≤ x6 then (if (rd hh6 x6) ≥ (-1000000) then (s_Valid.l0 k (decide ((rd hh6 x6) ≤ 1000000)) (wrap64 (x6 + 1)) hh0 hh1 hh2 hh3 hh4 hh5 hh6) else (s_Valid.l0 k false (wrap64 (x6 + 1)) hh0 hh1 hh2 hh3 hh4 hh5 hh6)) else (none)) else (s_Valid.l0 k false (wrap64 (x6 + 1)) hh0 hh1 hh2 hh3 hh4 hh5 hh6)) else (if x5 = true then ((s_colour.f k hh5).bind fun t420 => (if t420 = true then (if hh2 = 0 then (some (hh3 == 0)) else (some false)) else (some false))) else (some false))
end
def s_Valid.f (k : Nat) (a0_0 : Int) (a0_1 : Int) (a0_2 : Int) (a0_3 : Int) (a0_4 : ByteArray) (a0_5 : ByteArray) (l0_6 : List Int) : Option (Bool) := if a0_1 < (-1000000) then (s_Valid.j0 k true a0_0 a0_1 a0_2 a0_3 a0_4 a0_5 l0_6) else (if a0_1 > 1000000 then (s_Valid.j0 k true a0_0 a0_1 a0_2 a0_3 a0_4 a0_5 l0_6) else (if a0_2 < 0 then (s_Valid.j0 k true a0_0 a0_1 a0_2 a0_3 a0_4 a0_5 l0_6) else (s_Valid.j0 k (decide (a0_3 < 0)) a0_0 a0_1 a0_2 a0_3 a0_4 a0_5 l0_6)))
theorem s_Valid.calls (k : Nat) (a0_0 : Int) (a0_1 : Int) (a0_2 : Int) (a0_3 : Int) (a0_4 : ByteArray) (a0_5 : ByteArray) (A0_6 : Option Addr) (c0_6 : Nat) (l0_6 : List Int) (r : Bool) (w : World) (hr0_6 : Kd.C (Kd.int .i64) w A0_6 l0_6.length l0_6) (hc0_6 : l0_6.length ≤ c0_6) (h : s_Valid.f k a0_0 a0_1 a0_2 a0_3 a0_4 a0_5 l0_6 = some r) :
  Calls Try.prog 79 #[.agg #[.int .i64 a0_0, .int .i64 a0_1, .int .i64 a0_2, .int .i64 a0_3, .string a0_4, .string a0_5, .slice A0_6 l0_6.length c0_6]] w fun e w' => e = .returned (.bool r) ∧ Below w.heap.size w w' := by
 have hu33 := Try.underlying33
 have HR0_6 := o_ hr0_6
 have HC0_6 := o_ hc0_6
 clear hr0_6 hc0_6
 have HB := o_ (Below.refl w.heap.size w)
 have H : (if a0_1 < (-1000000) then (s_Valid.j0 k true a0_0 a0_1 a0_2 a0_3 a0_4 a0_5 l0_6) else (if a0_1 > 1000000 then (s_Valid.j0 k true a0_0 a0_1 a0_2 a0_3 a0_4 a0_5 l0_6) else (if a0_2 < 0 then (s_Valid.j0 k true a0_0 a0_1 a0_2 a0_3 a0_4 a0_5 l0_6) else (s_Valid.j0 k (decide (a0_3 < 0)) a0_0 a0_1 a0_2 a0_3 a0_4 a0_5 l0_6)))) = some r := h
 clear h
 have HC2 := o_ H
 clear H
 go_enter Try.func79, Try.ntmps79
 go_upto_region 1 with (first | ((with_reducible refine gate_dst (N := 1) rfl ?_); (try (refine gate_guard (by rfl) ?_; dsimp only)); refine box_event ?hg (N := 1) ?hd (cs := #[.int .i64 a0_0, .int .i64 a0_1, .int .i64 a0_2, .int .i64 a0_3, .string a0_4, .string a0_5, .slice A0_6 l0_6.length c0_6]) (t := 33) ?hr ?_; (case hd => rfl); (case hg => rfl); (case hr => first | (go_simp; done) | (go_simp; rfl)); intro gb415 hg w3 hbox hb; have n0_ := o_ (below_step (bl HB) hb); have n1_ := o_ (hbox); have n2_ := o_ ((by rw [hg]; exact (below_size (bl HB)) : w.heap.size ≤ gb415)); have n3_ := o_ ((by rw [hg]; exact (below_size (bl HB)) : w.heap.size ≤ gb415)); clear HB; have HB := n0_; have BK415 := n1_; have GW415 := n2_; have GE415 := n3_; clear n0_ n1_ n2_ n3_; clear hb hbox hg))
 (try simp only [Act.put, List.setIfInBounds_toArray, List.set_cons_zero, List.set_cons_succ])
 go_cut [24] (fun v24 wc => ∃ (kq : Nat) (x24_1 : Bool), v24 = .bool x24_1 ∧ As (s_Valid.j0 kq x24_1 a0_0 a0_1 a0_2 a0_3 a0_4 a0_5 l0_6 = some r) ∧ As (kq ≤ k) ∧ As (wc.heap[gb415]? = some (.cells #[.int .i64 a0_0, .int .i64 a0_1, .int .i64 a0_2, .int .i64 a0_3, .string a0_4, .string a0_5, (.slice A0_6 l0_6.length c0_6)] 33 (0, 0))) ∧ As (Below w.heap.size w wc))
 case first =>
  have H := HC2.out
  clear HC2
  by_cases c4 : a0_1 < (-1000000)
  ·rw [if_pos c4] at H
   have c4b0 := decide_eq_true c4
   clear c4
   (first | rw [c4b0] | (simp only [i64_w, i32_w]; rw [c4b0]) | skip)
   have H' := o_ H
   clear H
   have z5 := box7 BK415
   go_wp2
   go_meet
   case rel => exact ⟨_, (true), (by first | rfl | simp [*]), H', ⟨by first | omega | exact Nat.le_refl _⟩, ⟨bu BK415⟩, ⟨bl HB⟩⟩
  rw [if_neg c4] at H
  have c4b0 := decide_eq_false c4
  clear c4
  (first | rw [c4b0] | (simp only [i64_w, i32_w]; rw [c4b0]) | skip)
  by_cases c6 : a0_1 > 1000000
  ·rw [if_pos c6] at H
   have c6b0 : decide (1000000 < a0_1) = true := decide_eq_true c6
   clear c6
   have H' := o_ H
   clear H
   have z7 := box7 BK415
   go_wp2
   go_meet
   case rel => exact ⟨_, (true), (by first | rfl | simp [*]), H', ⟨by first | omega | exact Nat.le_refl _⟩, ⟨bu BK415⟩, ⟨bl HB⟩⟩
  rw [if_neg c6] at H
  have c6b0 : decide (1000000 < a0_1) = false := decide_eq_false c6
  clear c6
  by_cases c8 : a0_2 < 0
  ·rw [if_pos c8] at H
   have c8b0 := decide_eq_true c8
   clear c8
   have H' := o_ H
   clear H
   have z9 := box7 BK415
   go_wp2
   go_meet
   case rel => exact ⟨_, (true), (by first | rfl | simp [*]), H', ⟨by first | omega | exact Nat.le_refl _⟩, ⟨bu BK415⟩, ⟨bl HB⟩⟩
  rw [if_neg c8] at H
  have c8b0 := decide_eq_false c8
  clear c8
  have H' := o_ H
  clear H
  have z10 := box7 BK415
  go_wp2
  go_meet
  case rel => exact ⟨_, (decide (a0_3 < 0)), (by first | rfl | simp [*]), H', ⟨by first | omega | exact Nat.le_refl _⟩, ⟨bu BK415⟩, ⟨bl HB⟩⟩
 case rest =>
  clear HC2
  try clear z10
  try clear z5
  try clear z7
  try clear z9
  obtain ⟨kq, x24_1, rfl, HA, HJ1, BK415, HB⟩ := hcut
  cases kq with
  | zero => exact absurd HA.out (by simp [s_Valid.j0])
  | succ kj1 =>
   have H := HA.out
   clear HA
   simp only [s_Valid.j0] at H
   by_cases c11 : x24_1 = true
   ·subst c11
    have H1 : (some false) = some r := by rw [if_pos rfl] at H; exact H
    clear H
    have H := H1
    clear H1
    obtain rfl := Option.some.inj H
    go_wp2
    go_ret
    exact ⟨by first | rfl | (simp [*] <;> rfl), bl HB⟩
   replace c11 := Bool.eq_false_iff.mpr c11
   subst c11
   have H1 : (if a0_5.toList = ([] : List UInt8) then (s_Valid.j1 kj1 ((l0_6.length : Int) == 0) a0_0 a0_1 a0_2 a0_3 a0_4 a0_5 l0_6) else (s_Valid.j1 kj1 false a0_0 a0_1 a0_2 a0_3 a0_4 a0_5 l0_6)) = some r := by rw [if_neg (show ¬ (false = true) by decide)] at H; exact H
   clear H
   have H := H1
   clear H1
   have HC12 := o_ H
   clear H
   go_upto_region 3 with (fail)
   go_cut [3] (fun v3 wc => ∃ (kq : Nat) (x3_11 : Bool), v3 = .bool x3_11 ∧ As (s_Valid.j1 kq x3_11 a0_0 a0_1 a0_2 a0_3 a0_4 a0_5 l0_6 = some r) ∧ As (kq ≤ kj1) ∧ As (wc.heap[gb415]? = some (.cells #[.int .i64 a0_0, .int .i64 a0_1, .int .i64 a0_2, .int .i64 a0_3, .string a0_4, .string a0_5, (.slice A0_6 l0_6.length c0_6)] 33 (0, 0))) ∧ As (Below w.heap.size w wc))
   case first =>
    have H := HC12.out
    clear HC12
    by_cases c13 : a0_5.toList = ([] : List UInt8)
    rotate_left
    ·rw [if_neg c13] at H
     have c13b0 : (a0_5.toList == ([] : List UInt8)) = false := beq_eq_false_iff_ne.mpr c13
     have c13b1 : (a0_5.toList != ([] : List UInt8)) = true := bne_iff_ne.mpr c13
     (first | rw [c13b0] | (simp only [i64_w, i32_w]; rw [c13b0]) | skip)
     have H' := o_ H
     clear H
     have z15 := box7 BK415
     go_wp2
     go_meet
     case rel => exact ⟨_, (false), (by first | rfl | simp [*]), H', ⟨by have := HJ1.out; first | omega | exact Nat.le_refl _⟩, ⟨bu BK415⟩, ⟨bl HB⟩⟩
    rw [if_pos c13] at H
    have c13b0 : (a0_5.toList == ([] : List UInt8)) = true := beq_iff_eq.mpr c13
    have c13b1 : (a0_5.toList != ([] : List UInt8)) = false := bne_eq_false_iff_eq.mpr c13
    clear c13
    (first | rw [c13b0] | (simp only [i64_w, i32_w]; rw [c13b0]) | skip)
    have H' := o_ H
    clear H
    have z14 := box7 BK415
    go_wp2
    go_meet
    case rel => exact ⟨_, (((l0_6.length : Int) == 0)), (by first | rfl | simp [*]), H', ⟨by have := HJ1.out; first | omega | exact Nat.le_refl _⟩, ⟨bu BK415⟩, ⟨bl HB⟩⟩
   case rest =>
    clear HC12
    try clear z10
    try clear z14
    try clear z15
    try clear z5
    try clear z7
    try clear z9
    obtain ⟨kq, x3_11, rfl, HA, HJ11, BK415, HB⟩ := hcut
    cases kq with
    | zero => exact absurd HA.out (by simp [s_Valid.j1])
    | succ kj11 =>
     have H := HA.out
     clear HA
     simp only [s_Valid.j1] at H
     have HC16 := o_ H
     clear H
     go_upto_region 4 with (fail)
     go_cut [4] (fun v4 wc => ∃ (kq : Nat) (x4_15 : Bool), v4 = .bool x4_15 ∧ As (s_Valid.j2 kq x3_11 x4_15 a0_0 a0_1 a0_2 a0_3 a0_4 a0_5 l0_6 = some r) ∧ As (kq ≤ kj11) ∧ As (wc.heap[gb415]? = some (.cells #[.int .i64 a0_0, .int .i64 a0_1, .int .i64 a0_2, .int .i64 a0_3, .string a0_4, .string a0_5, (.slice A0_6 l0_6.length c0_6)] 33 (0, 0))) ∧ As (Below w.heap.size w wc))
     case first =>
      have H := HC16.out
      clear HC16
      by_cases c17 : a0_2 = 0
      rotate_left
      ·rw [if_neg c17] at H
       have c17b0 : (a0_2 == 0) = false := beq_eq_false_iff_ne.mpr c17
       have c17b1 : (a0_2 != 0) = true := bne_iff_ne.mpr c17
       (first | rw [c17b0] | (simp only [i64_w, i32_w]; rw [c17b0]) | skip)
       have H' := o_ H
       clear H
       have z21 := box7 BK415
       go_wp2
       go_meet
       case rel => exact ⟨_, (false), (by first | rfl | simp [*]), H', ⟨by have := HJ1.out; have := HJ11.out; first | omega | exact Nat.le_refl _⟩, ⟨bu BK415⟩, ⟨bl HB⟩⟩
      rw [if_pos c17] at H
      have c17b0 : (a0_2 == 0) = true := beq_iff_eq.mpr c17
      have c17b1 : (a0_2 != 0) = false := bne_eq_false_iff_eq.mpr c17
      clear c17
      (first | rw [c17b0] | (simp only [i64_w, i32_w]; rw [c17b0]) | skip)
      by_cases c18 : a0_3 = 0
      rotate_left
      ·rw [if_neg c18] at H
       have c18b0 : (a0_3 == 0) = false := beq_eq_false_iff_ne.mpr c18
       have c18b1 : (a0_3 != 0) = true := bne_iff_ne.mpr c18
       have H' := o_ H
       clear H
       have z20 := box7 BK415
       go_wp2
       go_meet
       case rel => exact ⟨_, (false), (by first | rfl | simp [*]), H', ⟨by have := HJ1.out; have := HJ11.out; first | omega | exact Nat.le_refl _⟩, ⟨bu BK415⟩, ⟨bl HB⟩⟩
      rw [if_pos c18] at H
      have c18b0 : (a0_3 == 0) = true := beq_iff_eq.mpr c18
      have c18b1 : (a0_3 != 0) = false := bne_eq_false_iff_eq.mpr c18
      clear c18
      have H' := o_ H
      clear H
      have z19 := box7 BK415
      go_wp2
      go_meet
      case rel => exact ⟨_, ((a0_4.toList == ([] : List UInt8))), (by first | rfl | simp [*]), H', ⟨by have := HJ1.out; have := HJ11.out; first | omega | exact Nat.le_refl _⟩, ⟨bu BK415⟩, ⟨bl HB⟩⟩
     case rest =>
      clear HC16
      try clear z10
      try clear z14
      try clear z15
      try clear z19
      try clear z20
      try clear z21
      try clear z5
      try clear z7
      try clear z9
      obtain ⟨kq, x4_15, rfl, HA, HJ15, BK415, HB⟩ := hcut
      cases kq with
      | zero => exact absurd HA.out (by simp [s_Valid.j2])
      | succ kj15 =>
       have H := HA.out
       clear HA
       simp only [s_Valid.j2] at H
       by_cases c22 : a0_0 = 0
       ·rw [if_pos c22] at H
        have c22b0 : (a0_0 == 0) = true := beq_iff_eq.mpr c22
        have c22b1 : (a0_0 != 0) = false := bne_eq_false_iff_eq.mpr c22
        clear c22
        obtain ⟨t416, A230, H⟩ := qb H
        try dsimp only at H
        have A23 := o_ A230
        clear A230
        by_cases c24 : t416 = true
        rotate_left
        ·replace c24 := Bool.eq_false_iff.mpr c24
         subst c24
         have H1 : (some false) = some r := by rw [if_neg (show ¬ (false = true) by decide)] at H; exact H
         clear H
         have H := H1
         clear H1
         obtain rfl := Option.some.inj H
         have z29 := box7 BK415
         go_wp2_with (first | ((with_reducible refine gate_callee (f := 86) rfl ?_); refine goesL_ (some 53) rfl rfl Try.func86 (by kernel_rfl) rfl #[.string a0_4] rfl (by (try simp only [List.map_toArray, List.map_cons, List.map_nil]); first | done | rfl | (simp only [List.length_drop, List.length_take]; rfl)) ?_; (with_reducible refine (s_IsName.calls kj15 a0_4 false _ A23.out).mono ?_); rintro e w' ⟨rfl, ⟨nd, rfl⟩⟩; refine ⟨_, rfl, ?_⟩))
         go_ret
         exact ⟨by first | rfl | (simp [*] <;> rfl), bl HB⟩
        subst c24
        have H1 : ((s_colour.f kj15 a0_5).bind fun t417 => (if t417 = true then (some ((l0_6.length : Int) == 0)) else (some false))) = some r := by rw [if_pos rfl] at H; exact H
        clear H
        have H := H1
        clear H1
        obtain ⟨t417, A250, H⟩ := qb H
        try dsimp only at H
        have A25 := o_ A250
        clear A250
        by_cases c26 : t417 = true
        ·subst c26
         have H1 : (some ((l0_6.length : Int) == 0)) = some r := by rw [if_pos rfl] at H; exact H
         clear H
         have H := H1
         clear H1
         obtain rfl := Option.some.inj H
         have z27 := box7 BK415
         go_wp2_with (first | ((with_reducible refine gate_callee (f := 86) rfl ?_); refine goesL_ (some 53) rfl rfl Try.func86 (by kernel_rfl) rfl #[.string a0_4] rfl (by (try simp only [List.map_toArray, List.map_cons, List.map_nil]); first | done | rfl | (simp only [List.length_drop, List.length_take]; rfl)) ?_; (with_reducible refine (s_IsName.calls kj15 a0_4 true _ A23.out).mono ?_); rintro e w' ⟨rfl, ⟨nd, rfl⟩⟩; refine ⟨_, rfl, ?_⟩) | (go_at_call 87; (with_reducible refine (s_colour.calls kj15 a0_5 true _ A25.out).mono ?_); rintro e w' ⟨rfl, ⟨nd, rfl⟩⟩))
         go_ret
         exact ⟨by first | rfl | (simp [*] <;> rfl), bl HB⟩
        replace c26 := Bool.eq_false_iff.mpr c26
        subst c26
        have H1 : (some false) = some r := by rw [if_neg (show ¬ (false = true) by decide)] at H; exact H
        clear H
        have H := H1
        clear H1
        obtain rfl := Option.some.inj H
        have z28 := box7 BK415
        go_wp2_with (first | ((with_reducible refine gate_callee (f := 86) rfl ?_); refine goesL_ (some 53) rfl rfl Try.func86 (by kernel_rfl) rfl #[.string a0_4] rfl (by (try simp only [List.map_toArray, List.map_cons, List.map_nil]); first | done | rfl | (simp only [List.length_drop, List.length_take]; rfl)) ?_; (with_reducible refine (s_IsName.calls kj15 a0_4 true _ A23.out).mono ?_); rintro e w' ⟨rfl, ⟨nd, rfl⟩⟩; refine ⟨_, rfl, ?_⟩) | (go_at_call 87; (with_reducible refine (s_colour.calls kj15 a0_5 false _ A25.out).mono ?_); rintro e w' ⟨rfl, ⟨nd, rfl⟩⟩))
        go_ret
        exact ⟨by first | rfl | (simp [*] <;> rfl), bl HB⟩
       rw [if_neg c22] at H
       have c22b0 : (a0_0 == 0) = false := beq_eq_false_iff_ne.mpr c22
       have c22b1 : (a0_0 != 0) = true := bne_iff_ne.mpr c22
       by_cases c30 : a0_0 = 1
       ·rw [if_pos c30] at H
        have c30b0 : (a0_0 == 1) = true := beq_iff_eq.mpr c30
        have c30b1 : (a0_0 != 1) = false := bne_eq_false_iff_eq.mpr c30
        clear c30
        by_cases c31 : x3_11 = true
        rotate_left
        ·replace c31 := Bool.eq_false_iff.mpr c31
         subst c31
         have H1 : (some false) = some r := by rw [if_neg (show ¬ (false = true) by decide)] at H; exact H
         clear H
         have H := H1
         clear H1
         obtain rfl := Option.some.inj H
         have z35 := box7 BK415
         go_wp2
         go_ret
         exact ⟨by first | rfl | (simp [*] <;> rfl), bl HB⟩
        subst c31
        have H1 : (if a0_4.toList = ([] : List UInt8) then (some true) else (some (a0_4.toList == ([126] : List UInt8)))) = some r := by rw [if_pos rfl] at H; exact H
        clear H
        have H := H1
        clear H1
        by_cases c32 : a0_4.toList = ([] : List UInt8)
        rotate_left
        ·rw [if_neg c32] at H
         have c32b0 : (a0_4.toList == ([] : List UInt8)) = false := beq_eq_false_iff_ne.mpr c32
         have c32b1 : (a0_4.toList != ([] : List UInt8)) = true := bne_iff_ne.mpr c32
         obtain rfl := Option.some.inj H
         have z34 := box7 BK415
         go_wp2
         go_ret
         exact ⟨by first | rfl | (simp [*] <;> rfl), bl HB⟩
        rw [if_pos c32] at H
        have c32b0 : (a0_4.toList == ([] : List UInt8)) = true := beq_iff_eq.mpr c32
        have c32b1 : (a0_4.toList != ([] : List UInt8)) = false := bne_eq_false_iff_eq.mpr c32
        clear c32
        obtain rfl := Option.some.inj H
        have z33 := box7 BK415
        go_wp2
        go_ret
        exact ⟨by first | rfl | (simp [*] <;> rfl), bl HB⟩
       rw [if_neg c30] at H
       have c30b0 : (a0_0 == 1) = false := beq_eq_false_iff_ne.mpr c30
       have c30b1 : (a0_0 != 1) = true := bne_iff_ne.mpr c30
       have HC36 := o_ H
       clear H
       have z37 := box7 BK415
       go_upto_if 78 with (fail)
       go_cut [78] (fun v78 wc => ∃ (kq : Nat) (x78_35 : Bool), v78 = .bool x78_35 ∧ As (s_Valid.j3 kq x3_11 x4_15 a0_0 x78_35 a0_0 a0_1 a0_2 a0_3 a0_4 a0_5 l0_6 = some r) ∧ As (kq ≤ kj15) ∧ As (wc.heap[gb415]? = some (.cells #[.int .i64 a0_0, .int .i64 a0_1, .int .i64 a0_2, .int .i64 a0_3, .string a0_4, .string a0_5, (.slice A0_6 l0_6.length c0_6)] 33 (0, 0))) ∧ As (Below w.heap.size w wc))
       case first =>
        have H := HC36.out
        clear HC36
        by_cases c38 : a0_0 = 2
        rotate_left
        ·rw [if_neg c38] at H
         have c38b0 : (a0_0 == 2) = false := beq_eq_false_iff_ne.mpr c38
         have c38b1 : (a0_0 != 2) = true := bne_iff_ne.mpr c38
         (first | rw [c38b0] | (simp only [i64_w, i32_w]; rw [c38b0]) | skip)
         have H' := o_ H
         clear H
         go_wp2
         go_meet
         case rel => exact ⟨_, ((a0_0 == 6)), (by first | rfl | simp [*]), H', ⟨by have := HJ1.out; have := HJ11.out; have := HJ15.out; first | omega | exact Nat.le_refl _⟩, ⟨bu BK415⟩, ⟨bl HB⟩⟩
        rw [if_pos c38] at H
        have c38b0 : (a0_0 == 2) = true := beq_iff_eq.mpr c38
        have c38b1 : (a0_0 != 2) = false := bne_eq_false_iff_eq.mpr c38
        clear c38
        (first | rw [c38b0] | (simp only [i64_w, i32_w]; rw [c38b0]) | skip)
        have H' := o_ H
        clear H
        go_wp2
        go_meet
        case rel => exact ⟨_, ((a0_0 == 2)), (by first | rfl | simp [*]), H', ⟨by have := HJ1.out; have := HJ11.out; have := HJ15.out; first | omega | exact Nat.le_refl _⟩, ⟨bu BK415⟩, ⟨bl HB⟩⟩
       case rest =>
        clear HC36
        try clear z10
        try clear z14
        try clear z15
        try clear z19
        try clear z20
        try clear z21
        try clear z27
        try clear z28
        try clear z29
        try clear z33
        try clear z34
        try clear z35
        try clear z37
        try clear z5
        try clear z7
        try clear z9
        obtain ⟨kq, x78_35, rfl, HA, HJ35, BK415, HB⟩ := hcut
        cases kq with
        | zero => exact absurd HA.out (by simp [s_Valid.j3])
        | succ kj35 =>
         have H := HA.out
         clear HA
         simp only [s_Valid.j3] at H
         by_cases c39 : x78_35 = true
         ·subst c39
          have H1 : (if x3_11 = true then (some x4_15) else (some false)) = some r := by rw [if_pos rfl] at H; exact H
          clear H
          have H := H1
          clear H1
          by_cases c40 : x3_11 = true
          ·subst c40
           have H1 : (some x4_15) = some r := by rw [if_pos rfl] at H; exact H
           clear H
           have H := H1
           clear H1
           obtain rfl := Option.some.inj H
           go_wp2
           go_ret
           exact ⟨by first | rfl | (simp [*] <;> rfl), bl HB⟩
          replace c40 := Bool.eq_false_iff.mpr c40
          subst c40
          have H1 : (some false) = some r := by rw [if_neg (show ¬ (false = true) by decide)] at H; exact H
          clear H
          have H := H1
          clear H1
          obtain rfl := Option.some.inj H
          go_wp2
          go_ret
          exact ⟨by first | rfl | (simp [*] <;> rfl), bl HB⟩
         replace c39 := Bool.eq_false_iff.mpr c39
         subst c39
         have H1 : (if a0_0 = 3 then (if x3_11 = true then (some x4_15) else (some false)) else (if a0_0 = 4 then (if (l0_6.length : Int) ≤ 40 then (if a0_4.toList = ([108] : List UInt8) then (s_Valid.j4 kj35 true a0_0 a0_1 a0_2 a0_3 a0_4 a0_5 l0_6) else (if a0_4.toList = ([99] : List UInt8) then (s_Valid.j4 kj35 true a0_0 a0_1 a0_2 a0_3 a0_4 a0_5 l0_6) else (if a0_4.toList = ([101] : List UInt8) then (s_Valid.j4 kj35 true a0_0 a0_1 a0_2 a0_3 a0_4 a0_5 l0_6) else (if a0_4.toList = ([97] : List UInt8) then (s_Valid.j4 kj35 true a0_0 a0_1 a0_2 a0_3 a0_4 a0_5 l0_6) else (s_Valid.j4 kj35 (a0_4.toList == ([126] : List UInt8)) a0_0 a0_1 a0_2 a0_3 a0_4 a0_5 l0_6))))) else (s_Valid.j4 kj35 false a0_0 a0_1 a0_2 a0_3 a0_4 a0_5 l0_6)) else (if a0_0 = 5 then (if x3_11 = true then (if x4_15 = true then (some (a0_1 == 0)) else (some false)) else (some false)) else (some false)))) = some r := by rw [if_neg (show ¬ (false = true) by decide)] at H; exact H
         clear H
         have H := H1
         clear H1
         by_cases c41 : a0_0 = 3
         ·rw [if_pos c41] at H
          have c41b0 : (a0_0 == 3) = true := beq_iff_eq.mpr c41
          have c41b1 : (a0_0 != 3) = false := bne_eq_false_iff_eq.mpr c41
          clear c41
          by_cases c42 : x3_11 = true
          ·subst c42
           have H1 : (some x4_15) = some r := by rw [if_pos rfl] at H; exact H
           clear H
           have H := H1
           clear H1
           obtain rfl := Option.some.inj H
           go_wp2
           go_ret
           exact ⟨by first | rfl | (simp [*] <;> rfl), bl HB⟩
          replace c42 := Bool.eq_false_iff.mpr c42
          subst c42
          have H1 : (some false) = some r := by rw [if_neg (show ¬ (false = true) by decide)] at H; exact H
          clear H
          have H := H1
          clear H1
          obtain rfl := Option.some.inj H
          go_wp2
          go_ret
          exact ⟨by first | rfl | (simp [*] <;> rfl), bl HB⟩
         rw [if_neg c41] at H
         have c41b0 : (a0_0 == 3) = false := beq_eq_false_iff_ne.mpr c41
         have c41b1 : (a0_0 != 3) = true := bne_iff_ne.mpr c41
         by_cases c43 : a0_0 = 4
         rotate_left
         ·rw [if_neg c43] at H
          have c43b0 : (a0_0 == 4) = false := beq_eq_false_iff_ne.mpr c43
          have c43b1 : (a0_0 != 4) = true := bne_iff_ne.mpr c43
          by_cases c71 : a0_0 = 5
          rotate_left
          ·rw [if_neg c71] at H
           have c71b0 : (a0_0 == 5) = false := beq_eq_false_iff_ne.mpr c71
           have c71b1 : (a0_0 != 5) = true := bne_iff_ne.mpr c71
           obtain rfl := Option.some.inj H
           go_wp2
           go_ret
           exact ⟨by first | rfl | (simp [*] <;> rfl), bl HB⟩
          rw [if_pos c71] at H
          have c71b0 : (a0_0 == 5) = true := beq_iff_eq.mpr c71
          have c71b1 : (a0_0 != 5) = false := bne_eq_false_iff_eq.mpr c71
          clear c71
          by_cases c72 : x3_11 = true
          rotate_left
          ·replace c72 := Bool.eq_false_iff.mpr c72
           subst c72
           have H1 : (some false) = some r := by rw [if_neg (show ¬ (false = true) by decide)] at H; exact H
           clear H
           have H := H1
           clear H1
           obtain rfl := Option.some.inj H
           go_wp2
           go_ret
           exact ⟨by first | rfl | (simp [*] <;> rfl), bl HB⟩
          subst c72
          have H1 : (if x4_15 = true then (some (a0_1 == 0)) else (some false)) = some r := by rw [if_pos rfl] at H; exact H
          clear H
          have H := H1
          clear H1
          by_cases c73 : x4_15 = true
          ·subst c73
           have H1 : (some (a0_1 == 0)) = some r := by rw [if_pos rfl] at H; exact H
           clear H
           have H := H1
           clear H1
           obtain rfl := Option.some.inj H
           have z74 := box7 BK415
           go_wp2
           go_ret
           exact ⟨by first | rfl | (simp [*] <;> rfl), bl HB⟩
          replace c73 := Bool.eq_false_iff.mpr c73
          subst c73
          have H1 : (some false) = some r := by rw [if_neg (show ¬ (false = true) by decide)] at H; exact H
          clear H
          have H := H1
          clear H1
          obtain rfl := Option.some.inj H
          go_wp2
          go_ret
          exact ⟨by first | rfl | (simp [*] <;> rfl), bl HB⟩
         rw [if_pos c43] at H
         have c43b0 : (a0_0 == 4) = true := beq_iff_eq.mpr c43
         have c43b1 : (a0_0 != 4) = false := bne_eq_false_iff_eq.mpr c43
         clear c43
         have HC44 := o_ H
         clear H
         go_upto_region 16 with (fail)
         go_cut [5] (fun v5 wc => ∃ (kq : Nat) (x5_43 : Bool), v5 = .bool x5_43 ∧ As (s_Valid.j4 kq x5_43 a0_0 a0_1 a0_2 a0_3 a0_4 a0_5 l0_6 = some r) ∧ As (kq ≤ kj35) ∧ As (wc.heap[gb415]? = some (.cells #[.int .i64 a0_0, .int .i64 a0_1, .int .i64 a0_2, .int .i64 a0_3, .string a0_4, .string a0_5, (.slice A0_6 l0_6.length c0_6)] 33 (0, 0))) ∧ As (Below w.heap.size w wc))
         case first =>
          have H := HC44.out
          clear HC44
          by_cases c45 : (l0_6.length : Int) ≤ 40
          rotate_left
          ·rw [if_neg c45] at H
           have c45b0 := decide_eq_false c45
           have c45b1 : decide (l0_6.length ≤ 40) = false := decide_eq_false (by omega)
           clear c45
           (first | rw [c45b0] | (simp only [i64_w, i32_w]; rw [c45b0]) | skip)
           have H' := o_ H
           clear H
           have z55 := box7 BK415
           go_wp2
           go_meet
           case rel => exact ⟨_, (false), (by first | rfl | simp [*]), H', ⟨by have := HJ1.out; have := HJ11.out; have := HJ15.out; have := HJ35.out; first | omega | exact Nat.le_refl _⟩, ⟨bu BK415⟩, ⟨bl HB⟩⟩
          rw [if_pos c45] at H
          have c45b0 := decide_eq_true c45
          have c45b1 : decide (l0_6.length ≤ 40) = true := decide_eq_true (by omega)
          clear c45
          (first | rw [c45b0] | (simp only [i64_w, i32_w]; rw [c45b0]) | skip)
          by_cases c46 : a0_4.toList = ([108] : List UInt8)
          ·rw [if_pos c46] at H
           have c46b0 : (a0_4.toList == ([108] : List UInt8)) = true := beq_iff_eq.mpr c46
           have c46b1 : (a0_4.toList != ([108] : List UInt8)) = false := bne_eq_false_iff_eq.mpr c46
           clear c46
           have H' := o_ H
           clear H
           have z47 := box7 BK415
           go_wp2
           go_meet
           case rel => exact ⟨_, (true), (by first | rfl | simp [*]), H', ⟨by have := HJ1.out; have := HJ11.out; have := HJ15.out; have := HJ35.out; first | omega | exact Nat.le_refl _⟩, ⟨bu BK415⟩, ⟨bl HB⟩⟩
          rw [if_neg c46] at H
          have c46b0 : (a0_4.toList == ([108] : List UInt8)) = false := beq_eq_false_iff_ne.mpr c46
          have c46b1 : (a0_4.toList != ([108] : List UInt8)) = true := bne_iff_ne.mpr c46
          by_cases c48 : a0_4.toList = ([99] : List UInt8)
          ·rw [if_pos c48] at H
           have c48b0 : (a0_4.toList == ([99] : List UInt8)) = true := beq_iff_eq.mpr c48
           have c48b1 : (a0_4.toList != ([99] : List UInt8)) = false := bne_eq_false_iff_eq.mpr c48
           clear c48
           have H' := o_ H
           clear H
           have z49 := box7 BK415
           go_wp2
           go_meet
           case rel => exact ⟨_, (true), (by first | rfl | simp [*]), H', ⟨by have := HJ1.out; have := HJ11.out; have := HJ15.out; have := HJ35.out; first | omega | exact Nat.le_refl _⟩, ⟨bu BK415⟩, ⟨bl HB⟩⟩
          rw [if_neg c48] at H
          have c48b0 : (a0_4.toList == ([99] : List UInt8)) = false := beq_eq_false_iff_ne.mpr c48
          have c48b1 : (a0_4.toList != ([99] : List UInt8)) = true := bne_iff_ne.mpr c48
          by_cases c50 : a0_4.toList = ([101] : List UInt8)
          ·rw [if_pos c50] at H
           have c50b0 : (a0_4.toList == ([101] : List UInt8)) = true := beq_iff_eq.mpr c50
           have c50b1 : (a0_4.toList != ([101] : List UInt8)) = false := bne_eq_false_iff_eq.mpr c50
           clear c50
           have H' := o_ H
           clear H
           have z51 := box7 BK415
           go_wp2
           go_meet
           case rel => exact ⟨_, (true), (by first | rfl | simp [*]), H', ⟨by have := HJ1.out; have := HJ11.out; have := HJ15.out; have := HJ35.out; first | omega | exact Nat.le_refl _⟩, ⟨bu BK415⟩, ⟨bl HB⟩⟩
          rw [if_neg c50] at H
          have c50b0 : (a0_4.toList == ([101] : List UInt8)) = false := beq_eq_false_iff_ne.mpr c50
          have c50b1 : (a0_4.toList != ([101] : List UInt8)) = true := bne_iff_ne.mpr c50
          by_cases c52 : a0_4.toList = ([97] : List UInt8)
          rotate_left
          ·rw [if_neg c52] at H
           have c52b0 : (a0_4.toList == ([97] : List UInt8)) = false := beq_eq_false_iff_ne.mpr c52
           have c52b1 : (a0_4.toList != ([97] : List UInt8)) = true := bne_iff_ne.mpr c52
           have H' := o_ H
           clear H
           have z54 := box7 BK415
           go_wp2
           go_meet
           case rel => exact ⟨_, ((a0_4.toList == ([126] : List UInt8))), (by first | rfl | simp [*]), H', ⟨by have := HJ1.out; have := HJ11.out; have := HJ15.out; have := HJ35.out; first | omega | exact Nat.le_refl _⟩, ⟨bu BK415⟩, ⟨bl HB⟩⟩
          rw [if_pos c52] at H
          have c52b0 : (a0_4.toList == ([97] : List UInt8)) = true := beq_iff_eq.mpr c52
          have c52b1 : (a0_4.toList != ([97] : List UInt8)) = false := bne_eq_false_iff_eq.mpr c52
          clear c52
          have H' := o_ H
          clear H
          have z53 := box7 BK415
          go_wp2
          go_meet
          case rel => exact ⟨_, (true), (by first | rfl | simp [*]), H', ⟨by have := HJ1.out; have := HJ11.out; have := HJ15.out; have := HJ35.out; first | omega | exact Nat.le_refl _⟩, ⟨bu BK415⟩, ⟨bl HB⟩⟩
         case rest =>
          clear HC44
          try clear z10
          try clear z14
          try clear z15
          try clear z19
          try clear z20
          try clear z21
          try clear z27
          try clear z28
          try clear z29
          try clear z33
          try clear z34
          try clear z35
          try clear z37
          try clear z47
          try clear z49
          try clear z51
          try clear z53
          try clear z54
          try clear z55
          try clear z5
          try clear z7
          try clear z9
          obtain ⟨kq, x5_43, rfl, HA, HJ43, BK415, HB⟩ := hcut
          cases kq with
          | zero => exact absurd HA.out (by simp [s_Valid.j4])
          | succ kj43 =>
           have H := HA.out
           clear HA
           simp only [s_Valid.j4] at H
           have H' := o_ H
           clear H
           go_wp2
           go_loopg [5, 6] kj43 (fun kq v5 v6 w' => ∃ (x5_6 : Bool) (x6_6 : Int), v5 = .bool x5_6 ∧ v6 = .int .i64 x6_6 ∧ As (s_Valid.l0 kq x5_6 x6_6 a0_0 a0_1 a0_2 a0_3 a0_4 a0_5 l0_6 = some r) ∧ As (kq ≤ kj43) ∧ As (w'.heap[gb415]? = some (.cells #[.int .i64 a0_0, .int .i64 a0_1, .int .i64 a0_2, .int .i64 a0_3, .string a0_4, .string a0_5, (.slice A0_6 l0_6.length c0_6)] 33 (0, 0))) ∧ As (Below w.heap.size w w'))
           case atStart => exact ⟨(x5_43), (0), (by first | rfl | simp [*]), (by first | rfl | simp [*]), H', ⟨Nat.le_refl _⟩, ⟨bu BK415⟩, ⟨bl HB⟩⟩
           case round =>
            clear H'
            try clear z10
            try clear z14
            try clear z15
            try clear z19
            try clear z20
            try clear z21
            try clear z27
            try clear z28
            try clear z29
            try clear z33
            try clear z34
            try clear z35
            try clear z37
            try clear z47
            try clear z49
            try clear z51
            try clear z53
            try clear z54
            try clear z55
            try clear z5
            try clear z7
            try clear z9
            obtain ⟨x5_6, x6_6, rfl, rfl, HA, HK6, BK415, HB⟩ := hrel
            cases gk with
            | zero => exact absurd HA.out (by simp [s_Valid.l0])
            | succ k6 =>
             have H := HA.out
             clear HA
             simp only [s_Valid.l0] at H
             by_cases c56 : x6_6 < (l0_6.length : Int)
             rotate_left
             ·rw [if_neg c56] at H
              have c56b0 := decide_eq_false c56
              clear c56
              by_cases c63 : x5_6 = true
              rotate_left
              ·replace c63 := Bool.eq_false_iff.mpr c63
               subst c63
               have H1 : (some false) = some r := by rw [if_neg (show ¬ (false = true) by decide)] at H; exact H
               clear H
               have H := H1
               clear H1
               obtain rfl := Option.some.inj H
               have z70 := box7 BK415
               go_wp2
               go_ret
               exact ⟨by first | rfl | (simp [*] <;> rfl), bl HB⟩
              subst c63
              have H1 : ((s_colour.f k6 a0_5).bind fun t420 => (if t420 = true then (if a0_2 = 0 then (some (a0_3 == 0)) else (some false)) else (some false))) = some r := by rw [if_pos rfl] at H; exact H
              clear H
              have H := H1
              clear H1
              obtain ⟨t420, A640, H⟩ := qb H
              try dsimp only at H
              have A64 := o_ A640
              clear A640
              by_cases c65 : t420 = true
              rotate_left
              ·replace c65 := Bool.eq_false_iff.mpr c65
               subst c65
               have H1 : (some false) = some r := by rw [if_neg (show ¬ (false = true) by decide)] at H; exact H
               clear H
               have H := H1
               clear H1
               obtain rfl := Option.some.inj H
               have z69 := box7 BK415
               go_wp2_with (first | (go_at_call 87; (with_reducible refine (s_colour.calls k6 a0_5 false _ A64.out).mono ?_); rintro e w' ⟨rfl, ⟨nd, rfl⟩⟩))
               go_ret
               exact ⟨by first | rfl | (simp [*] <;> rfl), bl HB⟩
              subst c65
              have H1 : (if a0_2 = 0 then (some (a0_3 == 0)) else (some false)) = some r := by rw [if_pos rfl] at H; exact H
              clear H
              have H := H1
              clear H1
              by_cases c66 : a0_2 = 0
              rotate_left
              ·rw [if_neg c66] at H
               have c66b0 : (a0_2 == 0) = false := beq_eq_false_iff_ne.mpr c66
               have c66b1 : (a0_2 != 0) = true := bne_iff_ne.mpr c66
               obtain rfl := Option.some.inj H
               have z68 := box7 BK415
               go_wp2_with (first | (go_at_call 87; (with_reducible refine (s_colour.calls k6 a0_5 true _ A64.out).mono ?_); rintro e w' ⟨rfl, ⟨nd, rfl⟩⟩))
               go_ret
               exact ⟨by first | rfl | (simp [*] <;> rfl), bl HB⟩
              rw [if_pos c66] at H
              have c66b0 : (a0_2 == 0) = true := beq_iff_eq.mpr c66
              have c66b1 : (a0_2 != 0) = false := bne_eq_false_iff_eq.mpr c66
              clear c66
              obtain rfl := Option.some.inj H
              have z67 := box7 BK415
              go_wp2_with (first | (go_at_call 87; (with_reducible refine (s_colour.calls k6 a0_5 true _ A64.out).mono ?_); rintro e w' ⟨rfl, ⟨nd, rfl⟩⟩))
              go_ret
              exact ⟨by first | rfl | (simp [*] <;> rfl), bl HB⟩
             rw [if_pos c56] at H
             have c56b0 := decide_eq_true c56
             clear c56
             by_cases c57 : x5_6 = true
             rotate_left
             ·replace c57 := Bool.eq_false_iff.mpr c57
              subst c57
              have H1 : (s_Valid.l0 k6 false (wrap64 (x6_6 + 1)) a0_0 a0_1 a0_2 a0_3 a0_4 a0_5 l0_6) = some r := by rw [if_neg (show ¬ (false = true) by decide)] at H; exact H
              clear H
              have H := H1
              clear H1
              have H' := o_ H
              clear H
              have z62 := box7 BK415
              go_wp2
              go_roundg k6
              case measure => have := HJ1.out; have := HJ11.out; have := HJ15.out; have := HJ35.out; have := HJ43.out; have := HK6.out; omega
              case rel => exact ⟨(false), (wrap64 (x6_6 + 1)), (by first | rfl | simp [*]), (by first | rfl | simp [*]), H', ⟨by have := HJ1.out; have := HJ11.out; have := HJ15.out; have := HJ35.out; have := HJ43.out; have := HK6.out; omega⟩, ⟨bu BK415⟩, ⟨bl HB⟩⟩
             subst c57
             have H1 : (if 0 ≤ x6_6 then (if (rd l0_6 x6_6) ≥ (-1000000) then (s_Valid.l0 k6 (decide ((rd l0_6 x6_6) ≤ 1000000)) (wrap64 (x6_6 + 1)) a0_0 a0_1 a0_2 a0_3 a0_4 a0_5 l0_6) else (s_Valid.l0 k6 false (wrap64 (x6_6 + 1)) a0_0 a0_1 a0_2 a0_3 a0_4 a0_5 l0_6)) else (none)) = some r := by rw [if_pos rfl] at H; exact H
             clear H
             have H := H1
             clear H1
             by_cases c58 : 0 ≤ x6_6
             rotate_left
             ·rw [if_neg c58] at H
              exact absurd H (by simp)
             rw [if_pos c58] at H
             have c58b0 := decide_eq_true c58
             clear c58
             by_cases c59 : (rd l0_6 x6_6) ≥ (-1000000)
             rotate_left
             ·rw [if_neg c59] at H
              have c59b0 : decide ((-1000000) ≤ (rd l0_6 x6_6)) = false := decide_eq_false c59
              clear c59
              have H' := o_ H
              clear H
              have z61 := box7 BK415
              have p418 : 0 ≤ (x6_6 : Int) := oa
              have q418 : x6_6 < (l0_6.length : Int) := oa
              obtain ⟨ad418, e418, hx418_0⟩ := Kd.at_int HR0_6.out x6_6 p418 q418
              cases e418
              replace hx418_0 := ct HB hx418_0
              replace p418 := eq_true p418
              replace q418 := eq_true q418
              go_wp2
              go_roundg k6
              case measure => have := HJ1.out; have := HJ11.out; have := HJ15.out; have := HJ35.out; have := HJ43.out; have := HK6.out; omega
              case rel => exact ⟨(false), (wrap64 (x6_6 + 1)), (by first | rfl | simp [*]), (by first | rfl | simp [*]), H', ⟨by have := HJ1.out; have := HJ11.out; have := HJ15.out; have := HJ35.out; have := HJ43.out; have := HK6.out; omega⟩, ⟨bu BK415⟩, ⟨bl HB⟩⟩
             rw [if_pos c59] at H
             have c59b0 : decide ((-1000000) ≤ (rd l0_6 x6_6)) = true := decide_eq_true c59
             clear c59
             have H' := o_ H
             clear H
             have z60 := box7 BK415
             have p418 : 0 ≤ (x6_6 : Int) := oa
             have q418 : x6_6 < (l0_6.length : Int) := oa
             obtain ⟨ad418, e418, hx418_0⟩ := Kd.at_int HR0_6.out x6_6 p418 q418
             cases e418
             replace hx418_0 := ct HB hx418_0
             replace p418 := eq_true p418
             replace q418 := eq_true q418
             have p419 : 0 ≤ (x6_6 : Int) := oa
             have q419 : x6_6 < (l0_6.length : Int) := oa
             obtain ⟨ad419, e419, hx419_0⟩ := Kd.at_int HR0_6.out x6_6 p419 q419
             obtain rfl : ad418 = ad419 := (by injection e419)
             replace hx419_0 := ct HB hx419_0
             replace p419 := eq_true p419
             replace q419 := eq_true q419
             go_wp2
             go_roundg k6
             case measure => have := HJ1.out; have := HJ11.out; have := HJ15.out; have := HJ35.out; have := HJ43.out; have := HK6.out; omega
             case rel => exact ⟨(decide ((rd l0_6 x6_6) ≤ 1000000)), (wrap64 (x6_6 + 1)), (by first | rfl | simp [*]), (by first | rfl | simp [*]), H', ⟨by have := HJ1.out; have := HJ11.out; have := HJ15.out; have := HJ35.out; have := HJ43.out; have := HK6.out; omega⟩, ⟨bu BK415⟩, ⟨bl HB⟩⟩
def r_isHyphen.f (k : Nat) (a0_0 : Int) (a0_1 : Int) (a0_2 : Int) (a0_3 : Int) (a0_4 : ByteArray) (a0_5 : ByteArray) (l0_6 : List Int) : Option (Bool) := (s_Valid.f k a0_0 a0_1 a0_2 a0_3 a0_4 a0_5 l0_6).bind fun t424 => (if t424 = true then (if a0_0 = 0 then (some true) else (some (a0_0 == 5))) else (some false))
theorem r_isHyphen.calls (k : Nat) (a0_0 : Int) (a0_1 : Int) (a0_2 : Int) (a0_3 : Int) (a0_4 : ByteArray) (a0_5 : ByteArray) (A0_6 : Option Addr) (c0_6 : Nat) (l0_6 : List Int) (r : Bool) (w : World) (hr0_6 : Kd.C (Kd.int .i64) w A0_6 l0_6.length l0_6) (hc0_6 : l0_6.length ≤ c0_6) (h : r_isHyphen.f k a0_0 a0_1 a0_2 a0_3 a0_4 a0_5 l0_6 = some r) :
  Calls Try.prog 68 #[.agg #[.int .i64 a0_0, .int .i64 a0_1, .int .i64 a0_2, .int .i64 a0_3, .string a0_4, .string a0_5, .slice A0_6 l0_6.length c0_6]] w fun e w' => e = .returned (.bool r) ∧ Below w.heap.size w w' := by
 have hu33 := Try.underlying33
 have HR0_6 := o_ hr0_6
 have HC0_6 := o_ hc0_6
 clear hr0_6 hc0_6
 have HB := o_ (Below.refl w.heap.size w)
 have H : ((s_Valid.f k a0_0 a0_1 a0_2 a0_3 a0_4 a0_5 l0_6).bind fun t424 => (if t424 = true then (if a0_0 = 0 then (some true) else (some (a0_0 == 5))) else (some false))) = some r := h
 clear h
 obtain ⟨t424, A20, H⟩ := qb H
 try dsimp only at H
 have A2 := o_ A20
 clear A20
 by_cases c3 : t424 = true
 rotate_left
 ·replace c3 := Bool.eq_false_iff.mpr c3
  subst c3
  have H1 : (some false) = some r := by rw [if_neg (show ¬ (false = true) by decide)] at H; exact H
  clear H
  have H := H1
  clear H1
  obtain rfl := Option.some.inj H
  go_enter Try.func68, Try.ntmps68
  go_wp2_with (first | ((with_reducible refine gate_dst (N := 1) rfl ?_); refine box_event ?hg (N := 1) ?hd (cs := #[.int .i64 a0_0, .int .i64 a0_1, .int .i64 a0_2, .int .i64 a0_3, .string a0_4, .string a0_5, .slice A0_6 l0_6.length c0_6]) (t := 33) ?hr ?_; (case hd => rfl); (case hg => rfl); (case hr => first | (go_simp; done) | (go_simp; rfl)); intro gb423 hg w13 hbox hb; have n0_ := o_ (below_step (bl HB) hb); have n1_ := o_ (hbox); have n2_ := o_ ((by rw [hg]; exact (below_size (bl HB)) : w.heap.size ≤ gb423)); have n3_ := o_ ((by rw [hg]; exact (below_size (bl HB)) : w.heap.size ≤ gb423)); clear HB; have HB := n0_; have BK423 := n1_; have GW423 := n2_; have GE423 := n3_; clear n0_ n1_ n2_ n3_; clear hb hbox hg; have z14 := box7 BK423) | (go_at_call 79; (with_reducible refine (s_Valid.calls k a0_0 a0_1 a0_2 a0_3 a0_4 a0_5 _ _ l0_6 false _ ?side1 ?side2 A2.out).mono ?_); (case side1 => exact Kd.C_below HR0_6.out (bl HB)); (case side2 => exact HC0_6.out); rintro e w15 ⟨rfl, hb⟩; have n0_ := o_ (blk_below (g := gb423) (o := .cells #[.int .i64 a0_0, .int .i64 a0_1, .int .i64 a0_2, .int .i64 a0_3, .string a0_4, .string a0_5, .slice A0_6 l0_6.length c0_6] 33 (0, 0)) (bu BK423) hb); have n1_ := o_ (below_step (bl HB) hb); clear BK423; clear HB; have BK423 := n0_; have HB := n1_; clear n0_ n1_; (try clear hb)))
  go_ret
  exact ⟨by first | rfl | (simp [*] <;> rfl), bl HB⟩
 subst c3
 have H1 : (if a0_0 = 0 then (some true) else (some (a0_0 == 5))) = some r := by rw [if_pos rfl] at H; exact H
 clear H
 have H := H1
 clear H1
 by_cases c4 : a0_0 = 0
 rotate_left
 ·rw [if_neg c4] at H
  have c4b0 : (a0_0 == 0) = false := beq_eq_false_iff_ne.mpr c4
  have c4b1 : (a0_0 != 0) = true := bne_iff_ne.mpr c4
  obtain rfl := Option.some.inj H
  go_enter Try.func68, Try.ntmps68
  go_wp2_with (first | ((with_reducible refine gate_dst (N := 1) rfl ?_); refine box_event ?hg (N := 1) ?hd (cs := #[.int .i64 a0_0, .int .i64 a0_1, .int .i64 a0_2, .int .i64 a0_3, .string a0_4, .string a0_5, .slice A0_6 l0_6.length c0_6]) (t := 33) ?hr ?_; (case hd => rfl); (case hg => rfl); (case hr => first | (go_simp; done) | (go_simp; rfl)); intro gb423 hg w9 hbox hb; have n0_ := o_ (below_step (bl HB) hb); have n1_ := o_ (hbox); have n2_ := o_ ((by rw [hg]; exact (below_size (bl HB)) : w.heap.size ≤ gb423)); have n3_ := o_ ((by rw [hg]; exact (below_size (bl HB)) : w.heap.size ≤ gb423)); clear HB; have HB := n0_; have BK423 := n1_; have GW423 := n2_; have GE423 := n3_; clear n0_ n1_ n2_ n3_; clear hb hbox hg; have z10 := box7 BK423) | (go_at_call 79; (with_reducible refine (s_Valid.calls k a0_0 a0_1 a0_2 a0_3 a0_4 a0_5 _ _ l0_6 true _ ?side1 ?side2 A2.out).mono ?_); (case side1 => exact Kd.C_below HR0_6.out (bl HB)); (case side2 => exact HC0_6.out); rintro e w11 ⟨rfl, hb⟩; have n0_ := o_ (blk_below (g := gb423) (o := .cells #[.int .i64 a0_0, .int .i64 a0_1, .int .i64 a0_2, .int .i64 a0_3, .string a0_4, .string a0_5, .slice A0_6 l0_6.length c0_6] 33 (0, 0)) (bu BK423) hb); have n1_ := o_ (below_step (bl HB) hb); clear BK423; clear HB; have BK423 := n0_; have HB := n1_; clear n0_ n1_; (try clear hb); have z12 := box7 BK423))
  go_ret
  exact ⟨by first | rfl | (simp [*] <;> rfl), bl HB⟩
 rw [if_pos c4] at H
 have c4b0 : (a0_0 == 0) = true := beq_iff_eq.mpr c4
 have c4b1 : (a0_0 != 0) = false := bne_eq_false_iff_eq.mpr c4
 clear c4
 obtain rfl := Option.some.inj H
 go_enter Try.func68, Try.ntmps68
 go_wp2_with (first | ((with_reducible refine gate_dst (N := 1) rfl ?_); refine box_event ?hg (N := 1) ?hd (cs := #[.int .i64 a0_0, .int .i64 a0_1, .int .i64 a0_2, .int .i64 a0_3, .string a0_4, .string a0_5, .slice A0_6 l0_6.length c0_6]) (t := 33) ?hr ?_; (case hd => rfl); (case hg => rfl); (case hr => first | (go_simp; done) | (go_simp; rfl)); intro gb423 hg w5 hbox hb; have n0_ := o_ (below_step (bl HB) hb); have n1_ := o_ (hbox); have n2_ := o_ ((by rw [hg]; exact (below_size (bl HB)) : w.heap.size ≤ gb423)); have n3_ := o_ ((by rw [hg]; exact (below_size (bl HB)) : w.heap.size ≤ gb423)); clear HB; have HB := n0_; have BK423 := n1_; have GW423 := n2_; have GE423 := n3_; clear n0_ n1_ n2_ n3_; clear hb hbox hg; have z6 := box7 BK423) | (go_at_call 79; (with_reducible refine (s_Valid.calls k a0_0 a0_1 a0_2 a0_3 a0_4 a0_5 _ _ l0_6 true _ ?side1 ?side2 A2.out).mono ?_); (case side1 => exact Kd.C_below HR0_6.out (bl HB)); (case side2 => exact HC0_6.out); rintro e w7 ⟨rfl, hb⟩; have n0_ := o_ (blk_below (g := gb423) (o := .cells #[.int .i64 a0_0, .int .i64 a0_1, .int .i64 a0_2, .int .i64 a0_3, .string a0_4, .string a0_5, .slice A0_6 l0_6.length c0_6] 33 (0, 0)) (bu BK423) hb); have n1_ := o_ (below_step (bl HB) hb); clear BK423; clear HB; have BK423 := n0_; have HB := n1_; clear n0_ n1_; (try clear hb); have z8 := box7 BK423))
 go_ret
 exact ⟨by first | rfl | (simp [*] <;> rfl), bl HB⟩
end Go.Proofs.Yteadghhmoggjnaa.Q
end
