/- glyph.Valid: is a box one? -/
import Derived.Test.YtekkjieoikgpmaaE4
set_option linter.unusedVariables false
set_option linter.unusedSimpArgs false
namespace Go.Proofs.Ytekkjieoikgpmaa
open Go.RowKit
set_option maxHeartbeats 3200000
set_option maxRecDepth 1000000

theorem stroke_index (s : ByteArray) (b : UInt8) (h : s.data.toList = [b]) : decide (0 ≤ Lib.indexByte [108, 99, 101, 97, 126] b) = strokeB s := by
  unfold strokeB
  rw [h]
  cases hc : decide (0 ≤ Lib.indexByte [108, 99, 101, 97, 126] b) with
  | true =>
    rw [decide_eq_true_iff] at hc
    obtain ⟨o, ho⟩ : ∃ o : Nat, Lib.indexByte [108, 99, 101, 97, 126] b = o := ⟨(Lib.indexByte [108, 99, 101, 97, 126] b).toNat, by omega⟩
    obtain ⟨h1, -⟩ := Lib.indexByte_some ho
    have := List.mem_of_getElem? h1
    simp at this
    rcases this with rfl | rfl | rfl | rfl | rfl <;> decide
  | false =>
    rw [decide_eq_false_iff_not] at hc
    have hm : Lib.indexByte [108, 99, 101, 97, 126] b = -1 := by have := Lib.indexByte_ge [108, 99, 101, 97, 126] b; omega
    have hn := Lib.indexByte_none hm
    have h0 := hn 0
    have h1 := hn 1
    have h2 := hn 2
    have h3 := hn 3
    have h4 := hn 4
    simp at h0 h1 h2 h3 h4
    simp [Ne.symm h0, Ne.symm h1, Ne.symm h2, Ne.symm h3, Ne.symm h4]
theorem one_byte {s : ByteArray} (h : s.size = 1) : ∃ b, s = ⟨#[b]⟩ := by
  obtain ⟨⟨l⟩⟩ := s
  match l, h with
  | [b], _ => exact ⟨b, rfl⟩
theorem slIndex_one (b : UInt8) (w : World) : Calls Try.prog 95 #[.string ⟨#[108, 99, 101, 97, 126]⟩, .string ⟨#[b]⟩] w fun e w' => e = .returned (.int .i64 (Lib.indexByte [108, 99, 101, 97, 126] b)) ∧ w = w' := by
  have hc : (⟨#[b]⟩ : ByteArray).toList = [b] := Lib.toList_data _
  have hc2 : (⟨#[108, 99, 101, 97, 126]⟩ : ByteArray).toList = [108, 99, 101, 97, 126] := Lib.toList_data _
  have hq : ([b] == [108, 99, 101, 97, 126]) = false := by simp
  go_enter Try.func95, Try.ntmps95
  go_wp2_with (go_at_call 64; refine (IndexByte_any _ b _).mono ?_; rintro e w' ⟨rfl, rfl⟩)
  go_ret
  exact ⟨rfl, rfl⟩
theorem Index_one (b : UInt8) (w : World) : Calls Try.prog 89 #[.string ⟨#[108, 99, 101, 97, 126]⟩, .string ⟨#[b]⟩] w fun e w' => e = .returned (.int .i64 (Lib.indexByte [108, 99, 101, 97, 126] b)) ∧ w = w' := by
  go_enter Try.func89, Try.ntmps89
  go_wp2_with (go_at_call 95; refine (slIndex_one _ _).mono ?_; rintro e w' ⟨rfl, rfl⟩)
  go_ret
  exact ⟨rfl, rfl⟩
theorem Contains_one (s : ByteArray) (w : World) (h : s.size = 1) : Calls Try.prog 70 #[.string ⟨#[108, 99, 101, 97, 126]⟩, .string s] w fun e w' => e = .returned (.bool (strokeB s)) ∧ w = w' := by
  obtain ⟨b, rfl⟩ := one_byte h
  have hx := stroke_index ⟨#[b]⟩ b rfl
  obtain ⟨r, hr⟩ : ∃ r, r = Lib.indexByte [108, 99, 101, 97, 126] b := ⟨_, rfl⟩
  rw [← hr] at hx
  have HX := hide hx
  have HR := hide hr
  clear hx hr h
  go_enter Try.func70, Try.ntmps70
  go_wp2_with (go_at_call 89; refine (Index_one _ _).mono ?_; rw [← HR.out]; rintro e w' ⟨rfl, rfl⟩)
  go_ret
  exact ⟨ret_bool HX.out, rfl⟩
def bareB (x : BoxT) : Bool := (x.f2 == 0) && (x.f3 == 0) && (x.f5.toList == []) && (x.f6.length == 0)
def validB (x : BoxT) : Bool :=
  !(decide (x.f1 < -1000000) || decide (1000000 < x.f1) || decide (x.f2 < 0) || decide (x.f3 < 0) || !(colourB x.f5)) &&
  (if x.f0 = 0 then namedB x.f4 && (x.f6.length == 0)
   else if x.f0 = 1 then ((x.f4.toList == []) || (x.f4.toList == [126])) && (x.f5.toList == []) && (x.f6.length == 0)
   else if x.f0 = 4 then (x.f2 == 0) && (x.f3 == 0) && (x.f4.size == 1) && strokeB x.f4 && decide (x.f6.length ≤ 40) && allI farV x.f6
   else if x.f0 = 5 then bareB x && (x.f4.toList == []) && (x.f1 == 0)
   else if x.f0 = 2 ∨ x.f0 = 3 ∨ x.f0 = 6 then bareB x && (x.f4.toList == [])
   else false)
theorem below_a {w : World} (o : Obj) : Below w.heap.size w (w.alloc o) := (Below.refl _ _).alloc (Nat.le_refl _) _
/-- The box's variable behind calls that only make memory. -/
structure BoxAt (w W : World) (x : BoxT) (A : Option Addr) (c : Nat) : Prop where
  blk : W.heap[w.heap.size]? = some (.cells (BoxT.cells x A c).toArray 86 (0, 0))
  bel : Below w.heap.size w W
theorem BoxAt.new (w : World) (x : BoxT) (A : Option Addr) (c : Nat) : BoxAt w (w.alloc (.cells (BoxT.cells x A c).toArray 86)) x A c := ⟨blk_new w _, below_a _⟩
theorem BoxAt.step {w W W' : World} {x : BoxT} {A : Option Addr} {c : Nat} (h : BoxAt w W x A c) (hb : Below W.heap.size W W') : BoxAt w W' x A c := ⟨blk_below h.blk hb (blk_lt h.blk), below_self h.bel hb⟩
theorem BoxAt.cells {w W : World} {x : BoxT} {A : Option Addr} {c : Nat} (h : BoxAt w W x A c) : W.cell? ⟨w.heap.size, 0, none⟩ = some (.int .i64 x.f0) ∧ W.cell? ⟨w.heap.size, 1, none⟩ = some (.int .i64 x.f1) ∧ W.cell? ⟨w.heap.size, 2, none⟩ = some (.int .i64 x.f2) ∧ W.cell? ⟨w.heap.size, 3, none⟩ = some (.int .i64 x.f3) ∧
    W.cell? ⟨w.heap.size, 4, none⟩ = some (.string x.f4) ∧ W.cell? ⟨w.heap.size, 5, none⟩ = some (.string x.f5) ∧ W.cell? ⟨w.heap.size, 6, none⟩ = some (.slice A x.f6.length c) := by
  refine ⟨?_, ?_, ?_, ?_, ?_, ?_, ?_⟩ <;> rw [blk_cell h.blk] <;> rfl
/-! ### Valid, case by case -/
theorem Valid_far0 (kd : Int) (wd ft sz : Int) (nm co : ByteArray) (ns : List Int) (A : Option Addr) (c : Nat) (w : World) (hr : Kind.int.Rd w (fun _ => True) A ns.length ns) (hn : ns.length ≤ 9223372036854775807) (hE : wd < -1000000) (cb : Bool) (hco : colourB co = cb) :
    Calls Try.prog 40 #[.agg (BoxT.cells ⟨kd, wd, ft, sz, nm, co, ns⟩ A c).toArray] w fun e w' => e = .returned (.bool (false)) ∧ Below w.heap.size w w' := by
  have HCO := hide hco
  clear hco
  have HR := hide hr
  have HN := hide hn
  have HB0 := hide (BoxAt.new w ⟨kd, wd, ft, sz, nm, co, ns⟩ A c)
  show Calls Try.prog 40 #[.agg #[.int .i64 kd, .int .i64 wd, .int .i64 ft, .int .i64 sz, .string nm, .string co, .slice A ns.length c]] w _
  clear hr hn
  obtain ⟨nn, hnn⟩ : ∃ nn, nn = ns.length := ⟨_, rfl⟩
  rw [← hnn]
  have HNN := hide hnn
  clear hnn
  go_enter Try.func40, Try.ntmps40
  go_upto_region 1 with fail
  obtain ⟨w1, hw1⟩ : ∃ w1, w1 = w.alloc (.cells #[.int .i64 kd, .int .i64 wd, .int .i64 ft, .int .i64 sz, .string nm, .string co, .slice A nn c] 86) := ⟨_, rfl⟩
  have HB1 : Hid (BoxAt w w1 ⟨kd, wd, ft, sz, nm, co, ns⟩ A c) := hide (by rw [hw1, HNN.out]; exact HB0.out)
  rw [← hw1]
  clear hw1 HB0
  obtain ⟨x0, x1, x2, x3, x4, x5, x6⟩ := HB1.out.cells
  rw [← HNN.out] at x6
  obtain ⟨gb, hgb⟩ : ∃ gb, gb = w.heap.size := ⟨_, rfl⟩
  have HGB := hide hgb
  rw [← hgb] at x0 x1 x2 x3 x4 x5 x6 ⊢
  clear hgb
  go_wp2_with (first
    | (go_at_call 67
       refine (colour_any co _).mono ?_
       rw [HCO.out]
       rintro e w2 ⟨rfl, q⟩
       have hb2 := HB1.out.step q
       obtain ⟨z0, z1, z2, z3, z4, z5, z6⟩ := hb2.cells
       rw [← HNN.out] at z6
       rw [← HGB.out] at z0 z1 z2 z3 z4 z5 z6
       have HB2 := hide hb2
       clear q hb2)
    | (go_at_call 68
       refine (named_any nm _).mono ?_
       rintro e w3 ⟨rfl, q⟩
       have hb3 := HB2.out.step q
       obtain ⟨y0, y1, y2, y3, y4, y5, y6⟩ := hb3.cells
       rw [← HNN.out] at y6
       rw [← HGB.out] at y0 y1 y2 y3 y4 y5 y6
       have HB3 := hide hb3
       clear q hb3)
    | (go_at_call 70
       refine (Contains_one nm _ (by omega)).mono ?_
       rintro e w3 ⟨rfl, rfl⟩)
    | (go_at_call 71
       refine (ContainsFunc_int farV 69 (fun _ _ => rfl) (fun c W => Valid1_any c W) A nn c ns (fun _ => True) _ (by rw [HNN.out]; exact HR.out.below HB2.out.bel) (by rw [HNN.out]; exact HN.out)).mono ?_
       rintro e w3 ⟨rfl, rfl⟩))
  all_goals go_ret
  all_goals refine ⟨ret_bool ?_, ?_⟩
  all_goals first
    | exact HB1.out.bel
    | exact HB2.out.bel
    | exact HB3.out.bel
    | rfl
    | (simp_all; done)
    | (simp_all; intros; exfalso; omega)
theorem Valid_far1 (kd : Int) (wd ft sz : Int) (nm co : ByteArray) (ns : List Int) (A : Option Addr) (c : Nat) (w : World) (hr : Kind.int.Rd w (fun _ => True) A ns.length ns) (hn : ns.length ≤ 9223372036854775807) (hE : 1000000 < wd) (cb : Bool) (hco : colourB co = cb) :
    Calls Try.prog 40 #[.agg (BoxT.cells ⟨kd, wd, ft, sz, nm, co, ns⟩ A c).toArray] w fun e w' => e = .returned (.bool (false)) ∧ Below w.heap.size w w' := by
  have HCO := hide hco
  clear hco
  have HR := hide hr
  have HN := hide hn
  have HB0 := hide (BoxAt.new w ⟨kd, wd, ft, sz, nm, co, ns⟩ A c)
  show Calls Try.prog 40 #[.agg #[.int .i64 kd, .int .i64 wd, .int .i64 ft, .int .i64 sz, .string nm, .string co, .slice A ns.length c]] w _
  clear hr hn
  obtain ⟨nn, hnn⟩ : ∃ nn, nn = ns.length := ⟨_, rfl⟩
  rw [← hnn]
  have HNN := hide hnn
  clear hnn
  go_enter Try.func40, Try.ntmps40
  go_upto_region 1 with fail
  obtain ⟨w1, hw1⟩ : ∃ w1, w1 = w.alloc (.cells #[.int .i64 kd, .int .i64 wd, .int .i64 ft, .int .i64 sz, .string nm, .string co, .slice A nn c] 86) := ⟨_, rfl⟩
  have HB1 : Hid (BoxAt w w1 ⟨kd, wd, ft, sz, nm, co, ns⟩ A c) := hide (by rw [hw1, HNN.out]; exact HB0.out)
  rw [← hw1]
  clear hw1 HB0
  obtain ⟨x0, x1, x2, x3, x4, x5, x6⟩ := HB1.out.cells
  rw [← HNN.out] at x6
  obtain ⟨gb, hgb⟩ : ∃ gb, gb = w.heap.size := ⟨_, rfl⟩
  have HGB := hide hgb
  rw [← hgb] at x0 x1 x2 x3 x4 x5 x6 ⊢
  clear hgb
  go_wp2_with (first
    | (go_at_call 67
       refine (colour_any co _).mono ?_
       rw [HCO.out]
       rintro e w2 ⟨rfl, q⟩
       have hb2 := HB1.out.step q
       obtain ⟨z0, z1, z2, z3, z4, z5, z6⟩ := hb2.cells
       rw [← HNN.out] at z6
       rw [← HGB.out] at z0 z1 z2 z3 z4 z5 z6
       have HB2 := hide hb2
       clear q hb2)
    | (go_at_call 68
       refine (named_any nm _).mono ?_
       rintro e w3 ⟨rfl, q⟩
       have hb3 := HB2.out.step q
       obtain ⟨y0, y1, y2, y3, y4, y5, y6⟩ := hb3.cells
       rw [← HNN.out] at y6
       rw [← HGB.out] at y0 y1 y2 y3 y4 y5 y6
       have HB3 := hide hb3
       clear q hb3)
    | (go_at_call 70
       refine (Contains_one nm _ (by omega)).mono ?_
       rintro e w3 ⟨rfl, rfl⟩)
    | (go_at_call 71
       refine (ContainsFunc_int farV 69 (fun _ _ => rfl) (fun c W => Valid1_any c W) A nn c ns (fun _ => True) _ (by rw [HNN.out]; exact HR.out.below HB2.out.bel) (by rw [HNN.out]; exact HN.out)).mono ?_
       rintro e w3 ⟨rfl, rfl⟩))
  all_goals go_ret
  all_goals refine ⟨ret_bool ?_, ?_⟩
  all_goals first
    | exact HB1.out.bel
    | exact HB2.out.bel
    | exact HB3.out.bel
    | rfl
    | (simp_all; done)
    | (simp_all; intros; exfalso; omega)
theorem Valid_far2 (kd : Int) (wd ft sz : Int) (nm co : ByteArray) (ns : List Int) (A : Option Addr) (c : Nat) (w : World) (hr : Kind.int.Rd w (fun _ => True) A ns.length ns) (hn : ns.length ≤ 9223372036854775807) (hE : ft < 0) (cb : Bool) (hco : colourB co = cb) :
    Calls Try.prog 40 #[.agg (BoxT.cells ⟨kd, wd, ft, sz, nm, co, ns⟩ A c).toArray] w fun e w' => e = .returned (.bool (false)) ∧ Below w.heap.size w w' := by
  have HCO := hide hco
  clear hco
  have hft : (ft == 0) = false := beq_eq_false_iff_ne.2 (by omega)
  have HR := hide hr
  have HN := hide hn
  have HB0 := hide (BoxAt.new w ⟨kd, wd, ft, sz, nm, co, ns⟩ A c)
  show Calls Try.prog 40 #[.agg #[.int .i64 kd, .int .i64 wd, .int .i64 ft, .int .i64 sz, .string nm, .string co, .slice A ns.length c]] w _
  clear hr hn
  obtain ⟨nn, hnn⟩ : ∃ nn, nn = ns.length := ⟨_, rfl⟩
  rw [← hnn]
  have HNN := hide hnn
  clear hnn
  go_enter Try.func40, Try.ntmps40
  go_upto_region 1 with fail
  obtain ⟨w1, hw1⟩ : ∃ w1, w1 = w.alloc (.cells #[.int .i64 kd, .int .i64 wd, .int .i64 ft, .int .i64 sz, .string nm, .string co, .slice A nn c] 86) := ⟨_, rfl⟩
  have HB1 : Hid (BoxAt w w1 ⟨kd, wd, ft, sz, nm, co, ns⟩ A c) := hide (by rw [hw1, HNN.out]; exact HB0.out)
  rw [← hw1]
  clear hw1 HB0
  obtain ⟨x0, x1, x2, x3, x4, x5, x6⟩ := HB1.out.cells
  rw [← HNN.out] at x6
  obtain ⟨gb, hgb⟩ : ∃ gb, gb = w.heap.size := ⟨_, rfl⟩
  have HGB := hide hgb
  rw [← hgb] at x0 x1 x2 x3 x4 x5 x6 ⊢
  clear hgb
  go_wp2_with (first
    | (go_at_call 67
       refine (colour_any co _).mono ?_
       rw [HCO.out]
       rintro e w2 ⟨rfl, q⟩
       have hb2 := HB1.out.step q
       obtain ⟨z0, z1, z2, z3, z4, z5, z6⟩ := hb2.cells
       rw [← HNN.out] at z6
       rw [← HGB.out] at z0 z1 z2 z3 z4 z5 z6
       have HB2 := hide hb2
       clear q hb2)
    | (go_at_call 68
       refine (named_any nm _).mono ?_
       rintro e w3 ⟨rfl, q⟩
       have hb3 := HB2.out.step q
       obtain ⟨y0, y1, y2, y3, y4, y5, y6⟩ := hb3.cells
       rw [← HNN.out] at y6
       rw [← HGB.out] at y0 y1 y2 y3 y4 y5 y6
       have HB3 := hide hb3
       clear q hb3)
    | (go_at_call 70
       refine (Contains_one nm _ (by omega)).mono ?_
       rintro e w3 ⟨rfl, rfl⟩)
    | (go_at_call 71
       refine (ContainsFunc_int farV 69 (fun _ _ => rfl) (fun c W => Valid1_any c W) A nn c ns (fun _ => True) _ (by rw [HNN.out]; exact HR.out.below HB2.out.bel) (by rw [HNN.out]; exact HN.out)).mono ?_
       rintro e w3 ⟨rfl, rfl⟩))
  all_goals go_ret
  all_goals refine ⟨ret_bool ?_, ?_⟩
  all_goals first
    | exact HB1.out.bel
    | exact HB2.out.bel
    | exact HB3.out.bel
    | rfl
    | (simp_all; done)
    | (simp_all; intros; exfalso; omega)
theorem Valid_far3 (kd : Int) (wd ft sz : Int) (nm co : ByteArray) (ns : List Int) (A : Option Addr) (c : Nat) (w : World) (hr : Kind.int.Rd w (fun _ => True) A ns.length ns) (hn : ns.length ≤ 9223372036854775807) (hE : sz < 0) (cb : Bool) (hco : colourB co = cb) :
    Calls Try.prog 40 #[.agg (BoxT.cells ⟨kd, wd, ft, sz, nm, co, ns⟩ A c).toArray] w fun e w' => e = .returned (.bool (false)) ∧ Below w.heap.size w w' := by
  have HCO := hide hco
  clear hco
  have hsz : (sz == 0) = false := beq_eq_false_iff_ne.2 (by omega)
  have HR := hide hr
  have HN := hide hn
  have HB0 := hide (BoxAt.new w ⟨kd, wd, ft, sz, nm, co, ns⟩ A c)
  show Calls Try.prog 40 #[.agg #[.int .i64 kd, .int .i64 wd, .int .i64 ft, .int .i64 sz, .string nm, .string co, .slice A ns.length c]] w _
  clear hr hn
  obtain ⟨nn, hnn⟩ : ∃ nn, nn = ns.length := ⟨_, rfl⟩
  rw [← hnn]
  have HNN := hide hnn
  clear hnn
  go_enter Try.func40, Try.ntmps40
  go_upto_region 1 with fail
  obtain ⟨w1, hw1⟩ : ∃ w1, w1 = w.alloc (.cells #[.int .i64 kd, .int .i64 wd, .int .i64 ft, .int .i64 sz, .string nm, .string co, .slice A nn c] 86) := ⟨_, rfl⟩
  have HB1 : Hid (BoxAt w w1 ⟨kd, wd, ft, sz, nm, co, ns⟩ A c) := hide (by rw [hw1, HNN.out]; exact HB0.out)
  rw [← hw1]
  clear hw1 HB0
  obtain ⟨x0, x1, x2, x3, x4, x5, x6⟩ := HB1.out.cells
  rw [← HNN.out] at x6
  obtain ⟨gb, hgb⟩ : ∃ gb, gb = w.heap.size := ⟨_, rfl⟩
  have HGB := hide hgb
  rw [← hgb] at x0 x1 x2 x3 x4 x5 x6 ⊢
  clear hgb
  go_wp2_with (first
    | (go_at_call 67
       refine (colour_any co _).mono ?_
       rw [HCO.out]
       rintro e w2 ⟨rfl, q⟩
       have hb2 := HB1.out.step q
       obtain ⟨z0, z1, z2, z3, z4, z5, z6⟩ := hb2.cells
       rw [← HNN.out] at z6
       rw [← HGB.out] at z0 z1 z2 z3 z4 z5 z6
       have HB2 := hide hb2
       clear q hb2)
    | (go_at_call 68
       refine (named_any nm _).mono ?_
       rintro e w3 ⟨rfl, q⟩
       have hb3 := HB2.out.step q
       obtain ⟨y0, y1, y2, y3, y4, y5, y6⟩ := hb3.cells
       rw [← HNN.out] at y6
       rw [← HGB.out] at y0 y1 y2 y3 y4 y5 y6
       have HB3 := hide hb3
       clear q hb3)
    | (go_at_call 70
       refine (Contains_one nm _ (by omega)).mono ?_
       rintro e w3 ⟨rfl, rfl⟩)
    | (go_at_call 71
       refine (ContainsFunc_int farV 69 (fun _ _ => rfl) (fun c W => Valid1_any c W) A nn c ns (fun _ => True) _ (by rw [HNN.out]; exact HR.out.below HB2.out.bel) (by rw [HNN.out]; exact HN.out)).mono ?_
       rintro e w3 ⟨rfl, rfl⟩))
  all_goals go_ret
  all_goals refine ⟨ret_bool ?_, ?_⟩
  all_goals first
    | exact HB1.out.bel
    | exact HB2.out.bel
    | exact HB3.out.bel
    | rfl
    | (simp_all; done)
    | (simp_all; intros; exfalso; omega)
theorem Valid_grey (kd : Int) (wd ft sz : Int) (nm co : ByteArray) (ns : List Int) (A : Option Addr) (c : Nat) (w : World) (hr : Kind.int.Rd w (fun _ => True) A ns.length ns) (hn : ns.length ≤ 9223372036854775807) (g1 : -1000000 ≤ wd) (g2 : wd ≤ 1000000) (g3 : 0 ≤ ft) (g4 : 0 ≤ sz) (hco : colourB co = false) :
    Calls Try.prog 40 #[.agg (BoxT.cells ⟨kd, wd, ft, sz, nm, co, ns⟩ A c).toArray] w fun e w' => e = .returned (.bool (false)) ∧ Below w.heap.size w w' := by
  have HCO := hide hco
  clear hco
  have HR := hide hr
  have HN := hide hn
  have HB0 := hide (BoxAt.new w ⟨kd, wd, ft, sz, nm, co, ns⟩ A c)
  show Calls Try.prog 40 #[.agg #[.int .i64 kd, .int .i64 wd, .int .i64 ft, .int .i64 sz, .string nm, .string co, .slice A ns.length c]] w _
  clear hr hn
  obtain ⟨nn, hnn⟩ : ∃ nn, nn = ns.length := ⟨_, rfl⟩
  rw [← hnn]
  have HNN := hide hnn
  clear hnn
  go_enter Try.func40, Try.ntmps40
  go_upto_region 1 with fail
  obtain ⟨w1, hw1⟩ : ∃ w1, w1 = w.alloc (.cells #[.int .i64 kd, .int .i64 wd, .int .i64 ft, .int .i64 sz, .string nm, .string co, .slice A nn c] 86) := ⟨_, rfl⟩
  have HB1 : Hid (BoxAt w w1 ⟨kd, wd, ft, sz, nm, co, ns⟩ A c) := hide (by rw [hw1, HNN.out]; exact HB0.out)
  rw [← hw1]
  clear hw1 HB0
  obtain ⟨x0, x1, x2, x3, x4, x5, x6⟩ := HB1.out.cells
  rw [← HNN.out] at x6
  obtain ⟨gb, hgb⟩ : ∃ gb, gb = w.heap.size := ⟨_, rfl⟩
  have HGB := hide hgb
  rw [← hgb] at x0 x1 x2 x3 x4 x5 x6 ⊢
  clear hgb
  go_wp2_with (first
    | (go_at_call 67
       refine (colour_any co _).mono ?_
       rw [HCO.out]
       rintro e w2 ⟨rfl, q⟩
       have hb2 := HB1.out.step q
       obtain ⟨z0, z1, z2, z3, z4, z5, z6⟩ := hb2.cells
       rw [← HNN.out] at z6
       rw [← HGB.out] at z0 z1 z2 z3 z4 z5 z6
       have HB2 := hide hb2
       clear q hb2)
    | (go_at_call 68
       refine (named_any nm _).mono ?_
       rintro e w3 ⟨rfl, q⟩
       have hb3 := HB2.out.step q
       obtain ⟨y0, y1, y2, y3, y4, y5, y6⟩ := hb3.cells
       rw [← HNN.out] at y6
       rw [← HGB.out] at y0 y1 y2 y3 y4 y5 y6
       have HB3 := hide hb3
       clear q hb3)
    | (go_at_call 70
       refine (Contains_one nm _ (by omega)).mono ?_
       rintro e w3 ⟨rfl, rfl⟩)
    | (go_at_call 71
       refine (ContainsFunc_int farV 69 (fun _ _ => rfl) (fun c W => Valid1_any c W) A nn c ns (fun _ => True) _ (by rw [HNN.out]; exact HR.out.below HB2.out.bel) (by rw [HNN.out]; exact HN.out)).mono ?_
       rintro e w3 ⟨rfl, rfl⟩))
  all_goals go_ret
  all_goals refine ⟨ret_bool ?_, ?_⟩
  all_goals first
    | exact HB1.out.bel
    | exact HB2.out.bel
    | exact HB3.out.bel
    | rfl
    | (simp_all; done)
    | (simp_all; intros; exfalso; omega)
theorem Valid_0 (wd ft sz : Int) (nm co : ByteArray) (ns : List Int) (A : Option Addr) (c : Nat) (w : World) (hr : Kind.int.Rd w (fun _ => True) A ns.length ns) (hn : ns.length ≤ 9223372036854775807) (g1 : -1000000 ≤ wd) (g2 : wd ≤ 1000000) (g3 : 0 ≤ ft) (g4 : 0 ≤ sz) (hco : colourB co = true) :
    Calls Try.prog 40 #[.agg (BoxT.cells ⟨0, wd, ft, sz, nm, co, ns⟩ A c).toArray] w fun e w' => e = .returned (.bool (namedB nm && ((ns.length : Int) == 0))) ∧ Below w.heap.size w w' := by
  have HCO := hide hco
  clear hco
  have HR := hide hr
  have HN := hide hn
  have HB0 := hide (BoxAt.new w ⟨0, wd, ft, sz, nm, co, ns⟩ A c)
  show Calls Try.prog 40 #[.agg #[.int .i64 0, .int .i64 wd, .int .i64 ft, .int .i64 sz, .string nm, .string co, .slice A ns.length c]] w _
  clear hr hn
  obtain ⟨nn, hnn⟩ : ∃ nn, nn = ns.length := ⟨_, rfl⟩
  rw [← hnn]
  have HNN := hide hnn
  clear hnn
  go_enter Try.func40, Try.ntmps40
  go_upto_region 1 with fail
  obtain ⟨w1, hw1⟩ : ∃ w1, w1 = w.alloc (.cells #[.int .i64 0, .int .i64 wd, .int .i64 ft, .int .i64 sz, .string nm, .string co, .slice A nn c] 86) := ⟨_, rfl⟩
  have HB1 : Hid (BoxAt w w1 ⟨0, wd, ft, sz, nm, co, ns⟩ A c) := hide (by rw [hw1, HNN.out]; exact HB0.out)
  rw [← hw1]
  clear hw1 HB0
  obtain ⟨x0, x1, x2, x3, x4, x5, x6⟩ := HB1.out.cells
  rw [← HNN.out] at x6
  obtain ⟨gb, hgb⟩ : ∃ gb, gb = w.heap.size := ⟨_, rfl⟩
  have HGB := hide hgb
  rw [← hgb] at x0 x1 x2 x3 x4 x5 x6 ⊢
  clear hgb
  go_wp2_with (first
    | (go_at_call 67
       refine (colour_any co _).mono ?_
       rw [HCO.out]
       rintro e w2 ⟨rfl, q⟩
       have hb2 := HB1.out.step q
       obtain ⟨z0, z1, z2, z3, z4, z5, z6⟩ := hb2.cells
       rw [← HNN.out] at z6
       rw [← HGB.out] at z0 z1 z2 z3 z4 z5 z6
       have HB2 := hide hb2
       clear q hb2)
    | (go_at_call 68
       refine (named_any nm _).mono ?_
       rintro e w3 ⟨rfl, q⟩
       have hb3 := HB2.out.step q
       obtain ⟨y0, y1, y2, y3, y4, y5, y6⟩ := hb3.cells
       rw [← HNN.out] at y6
       rw [← HGB.out] at y0 y1 y2 y3 y4 y5 y6
       have HB3 := hide hb3
       clear q hb3)
    | (go_at_call 70
       refine (Contains_one nm _ (by omega)).mono ?_
       rintro e w3 ⟨rfl, rfl⟩)
    | (go_at_call 71
       refine (ContainsFunc_int farV 69 (fun _ _ => rfl) (fun c W => Valid1_any c W) A nn c ns (fun _ => True) _ (by rw [HNN.out]; exact HR.out.below HB2.out.bel) (by rw [HNN.out]; exact HN.out)).mono ?_
       rintro e w3 ⟨rfl, rfl⟩))
  all_goals go_ret
  all_goals refine ⟨ret_bool ?_, ?_⟩
  all_goals first
    | exact HB1.out.bel
    | exact HB2.out.bel
    | exact HB3.out.bel
    | rfl
    | (simp_all; done)
    | (simp_all; intros; exfalso; omega)
theorem Valid_1 (wd ft sz : Int) (nm co : ByteArray) (ns : List Int) (A : Option Addr) (c : Nat) (w : World) (hr : Kind.int.Rd w (fun _ => True) A ns.length ns) (hn : ns.length ≤ 9223372036854775807) (g1 : -1000000 ≤ wd) (g2 : wd ≤ 1000000) (g3 : 0 ≤ ft) (g4 : 0 ≤ sz) (hco : colourB co = true) :
    Calls Try.prog 40 #[.agg (BoxT.cells ⟨1, wd, ft, sz, nm, co, ns⟩ A c).toArray] w fun e w' => e = .returned (.bool (((nm.toList == []) || (nm.toList == [126])) && (co.toList == []) && ((ns.length : Int) == 0))) ∧ Below w.heap.size w w' := by
  have HCO := hide hco
  clear hco
  have HR := hide hr
  have HN := hide hn
  have HB0 := hide (BoxAt.new w ⟨1, wd, ft, sz, nm, co, ns⟩ A c)
  show Calls Try.prog 40 #[.agg #[.int .i64 1, .int .i64 wd, .int .i64 ft, .int .i64 sz, .string nm, .string co, .slice A ns.length c]] w _
  clear hr hn
  obtain ⟨nn, hnn⟩ : ∃ nn, nn = ns.length := ⟨_, rfl⟩
  rw [← hnn]
  have HNN := hide hnn
  clear hnn
  go_enter Try.func40, Try.ntmps40
  go_upto_region 1 with fail
  obtain ⟨w1, hw1⟩ : ∃ w1, w1 = w.alloc (.cells #[.int .i64 1, .int .i64 wd, .int .i64 ft, .int .i64 sz, .string nm, .string co, .slice A nn c] 86) := ⟨_, rfl⟩
  have HB1 : Hid (BoxAt w w1 ⟨1, wd, ft, sz, nm, co, ns⟩ A c) := hide (by rw [hw1, HNN.out]; exact HB0.out)
  rw [← hw1]
  clear hw1 HB0
  obtain ⟨x0, x1, x2, x3, x4, x5, x6⟩ := HB1.out.cells
  rw [← HNN.out] at x6
  obtain ⟨gb, hgb⟩ : ∃ gb, gb = w.heap.size := ⟨_, rfl⟩
  have HGB := hide hgb
  rw [← hgb] at x0 x1 x2 x3 x4 x5 x6 ⊢
  clear hgb
  go_wp2_with (first
    | (go_at_call 67
       refine (colour_any co _).mono ?_
       rw [HCO.out]
       rintro e w2 ⟨rfl, q⟩
       have hb2 := HB1.out.step q
       obtain ⟨z0, z1, z2, z3, z4, z5, z6⟩ := hb2.cells
       rw [← HNN.out] at z6
       rw [← HGB.out] at z0 z1 z2 z3 z4 z5 z6
       have HB2 := hide hb2
       clear q hb2)
    | (go_at_call 68
       refine (named_any nm _).mono ?_
       rintro e w3 ⟨rfl, q⟩
       have hb3 := HB2.out.step q
       obtain ⟨y0, y1, y2, y3, y4, y5, y6⟩ := hb3.cells
       rw [← HNN.out] at y6
       rw [← HGB.out] at y0 y1 y2 y3 y4 y5 y6
       have HB3 := hide hb3
       clear q hb3)
    | (go_at_call 70
       refine (Contains_one nm _ (by omega)).mono ?_
       rintro e w3 ⟨rfl, rfl⟩)
    | (go_at_call 71
       refine (ContainsFunc_int farV 69 (fun _ _ => rfl) (fun c W => Valid1_any c W) A nn c ns (fun _ => True) _ (by rw [HNN.out]; exact HR.out.below HB2.out.bel) (by rw [HNN.out]; exact HN.out)).mono ?_
       rintro e w3 ⟨rfl, rfl⟩))
  all_goals go_ret
  all_goals refine ⟨ret_bool ?_, ?_⟩
  all_goals first
    | exact HB1.out.bel
    | exact HB2.out.bel
    | exact HB3.out.bel
    | rfl
    | (simp_all; done)
    | (simp_all; intros; exfalso; omega)
theorem Valid_4 (wd ft sz : Int) (nm co : ByteArray) (ns : List Int) (A : Option Addr) (c : Nat) (w : World) (hr : Kind.int.Rd w (fun _ => True) A ns.length ns) (hn : ns.length ≤ 9223372036854775807) (g1 : -1000000 ≤ wd) (g2 : wd ≤ 1000000) (g3 : 0 ≤ ft) (g4 : 0 ≤ sz) (hco : colourB co = true) :
    Calls Try.prog 40 #[.agg (BoxT.cells ⟨4, wd, ft, sz, nm, co, ns⟩ A c).toArray] w fun e w' => e = .returned (.bool ((ft == 0) && (sz == 0) && ((nm.size : Int) == 1) && strokeB nm && decide ((ns.length : Int) ≤ 40) && allI farV ns)) ∧ Below w.heap.size w w' := by
  have HCO := hide hco
  clear hco
  have HR := hide hr
  have HN := hide hn
  have HB0 := hide (BoxAt.new w ⟨4, wd, ft, sz, nm, co, ns⟩ A c)
  show Calls Try.prog 40 #[.agg #[.int .i64 4, .int .i64 wd, .int .i64 ft, .int .i64 sz, .string nm, .string co, .slice A ns.length c]] w _
  clear hr hn
  obtain ⟨nn, hnn⟩ : ∃ nn, nn = ns.length := ⟨_, rfl⟩
  rw [← hnn]
  have HNN := hide hnn
  clear hnn
  go_enter Try.func40, Try.ntmps40
  go_upto_region 1 with fail
  obtain ⟨w1, hw1⟩ : ∃ w1, w1 = w.alloc (.cells #[.int .i64 4, .int .i64 wd, .int .i64 ft, .int .i64 sz, .string nm, .string co, .slice A nn c] 86) := ⟨_, rfl⟩
  have HB1 : Hid (BoxAt w w1 ⟨4, wd, ft, sz, nm, co, ns⟩ A c) := hide (by rw [hw1, HNN.out]; exact HB0.out)
  rw [← hw1]
  clear hw1 HB0
  obtain ⟨x0, x1, x2, x3, x4, x5, x6⟩ := HB1.out.cells
  rw [← HNN.out] at x6
  obtain ⟨gb, hgb⟩ : ∃ gb, gb = w.heap.size := ⟨_, rfl⟩
  have HGB := hide hgb
  rw [← hgb] at x0 x1 x2 x3 x4 x5 x6 ⊢
  clear hgb
  go_wp2_with (first
    | (go_at_call 67
       refine (colour_any co _).mono ?_
       rw [HCO.out]
       rintro e w2 ⟨rfl, q⟩
       have hb2 := HB1.out.step q
       obtain ⟨z0, z1, z2, z3, z4, z5, z6⟩ := hb2.cells
       rw [← HNN.out] at z6
       rw [← HGB.out] at z0 z1 z2 z3 z4 z5 z6
       have HB2 := hide hb2
       clear q hb2)
    | (go_at_call 68
       refine (named_any nm _).mono ?_
       rintro e w3 ⟨rfl, q⟩
       have hb3 := HB2.out.step q
       obtain ⟨y0, y1, y2, y3, y4, y5, y6⟩ := hb3.cells
       rw [← HNN.out] at y6
       rw [← HGB.out] at y0 y1 y2 y3 y4 y5 y6
       have HB3 := hide hb3
       clear q hb3)
    | (go_at_call 70
       refine (Contains_one nm _ (by omega)).mono ?_
       rintro e w3 ⟨rfl, rfl⟩)
    | (go_at_call 71
       refine (ContainsFunc_int farV 69 (fun _ _ => rfl) (fun c W => Valid1_any c W) A nn c ns (fun _ => True) _ (by rw [HNN.out]; exact HR.out.below HB2.out.bel) (by rw [HNN.out]; exact HN.out)).mono ?_
       rintro e w3 ⟨rfl, rfl⟩))
  all_goals go_ret
  all_goals refine ⟨ret_bool ?_, ?_⟩
  all_goals first
    | exact HB1.out.bel
    | exact HB2.out.bel
    | exact HB3.out.bel
    | rfl
    | (simp_all; done)
    | (simp_all; intros; exfalso; omega)
theorem Valid_5 (wd ft sz : Int) (nm co : ByteArray) (ns : List Int) (A : Option Addr) (c : Nat) (w : World) (hr : Kind.int.Rd w (fun _ => True) A ns.length ns) (hn : ns.length ≤ 9223372036854775807) (g1 : -1000000 ≤ wd) (g2 : wd ≤ 1000000) (g3 : 0 ≤ ft) (g4 : 0 ≤ sz) (hco : colourB co = true) :
    Calls Try.prog 40 #[.agg (BoxT.cells ⟨5, wd, ft, sz, nm, co, ns⟩ A c).toArray] w fun e w' => e = .returned (.bool (((ft == 0) && (sz == 0) && (co.toList == []) && ((ns.length : Int) == 0)) && (nm.toList == []) && (wd == 0))) ∧ Below w.heap.size w w' := by
  have HCO := hide hco
  clear hco
  have HR := hide hr
  have HN := hide hn
  have HB0 := hide (BoxAt.new w ⟨5, wd, ft, sz, nm, co, ns⟩ A c)
  show Calls Try.prog 40 #[.agg #[.int .i64 5, .int .i64 wd, .int .i64 ft, .int .i64 sz, .string nm, .string co, .slice A ns.length c]] w _
  clear hr hn
  obtain ⟨nn, hnn⟩ : ∃ nn, nn = ns.length := ⟨_, rfl⟩
  rw [← hnn]
  have HNN := hide hnn
  clear hnn
  go_enter Try.func40, Try.ntmps40
  go_upto_region 1 with fail
  obtain ⟨w1, hw1⟩ : ∃ w1, w1 = w.alloc (.cells #[.int .i64 5, .int .i64 wd, .int .i64 ft, .int .i64 sz, .string nm, .string co, .slice A nn c] 86) := ⟨_, rfl⟩
  have HB1 : Hid (BoxAt w w1 ⟨5, wd, ft, sz, nm, co, ns⟩ A c) := hide (by rw [hw1, HNN.out]; exact HB0.out)
  rw [← hw1]
  clear hw1 HB0
  obtain ⟨x0, x1, x2, x3, x4, x5, x6⟩ := HB1.out.cells
  rw [← HNN.out] at x6
  obtain ⟨gb, hgb⟩ : ∃ gb, gb = w.heap.size := ⟨_, rfl⟩
  have HGB := hide hgb
  rw [← hgb] at x0 x1 x2 x3 x4 x5 x6 ⊢
  clear hgb
  go_wp2_with (first
    | (go_at_call 67
       refine (colour_any co _).mono ?_
       rw [HCO.out]
       rintro e w2 ⟨rfl, q⟩
       have hb2 := HB1.out.step q
       obtain ⟨z0, z1, z2, z3, z4, z5, z6⟩ := hb2.cells
       rw [← HNN.out] at z6
       rw [← HGB.out] at z0 z1 z2 z3 z4 z5 z6
       have HB2 := hide hb2
       clear q hb2)
    | (go_at_call 68
       refine (named_any nm _).mono ?_
       rintro e w3 ⟨rfl, q⟩
       have hb3 := HB2.out.step q
       obtain ⟨y0, y1, y2, y3, y4, y5, y6⟩ := hb3.cells
       rw [← HNN.out] at y6
       rw [← HGB.out] at y0 y1 y2 y3 y4 y5 y6
       have HB3 := hide hb3
       clear q hb3)
    | (go_at_call 70
       refine (Contains_one nm _ (by omega)).mono ?_
       rintro e w3 ⟨rfl, rfl⟩)
    | (go_at_call 71
       refine (ContainsFunc_int farV 69 (fun _ _ => rfl) (fun c W => Valid1_any c W) A nn c ns (fun _ => True) _ (by rw [HNN.out]; exact HR.out.below HB2.out.bel) (by rw [HNN.out]; exact HN.out)).mono ?_
       rintro e w3 ⟨rfl, rfl⟩))
  all_goals go_ret
  all_goals refine ⟨ret_bool ?_, ?_⟩
  all_goals first
    | exact HB1.out.bel
    | exact HB2.out.bel
    | exact HB3.out.bel
    | rfl
    | (simp_all; done)
    | (simp_all; intros; exfalso; omega)
theorem Valid_2 (wd ft sz : Int) (nm co : ByteArray) (ns : List Int) (A : Option Addr) (c : Nat) (w : World) (hr : Kind.int.Rd w (fun _ => True) A ns.length ns) (hn : ns.length ≤ 9223372036854775807) (g1 : -1000000 ≤ wd) (g2 : wd ≤ 1000000) (g3 : 0 ≤ ft) (g4 : 0 ≤ sz) (hco : colourB co = true) :
    Calls Try.prog 40 #[.agg (BoxT.cells ⟨2, wd, ft, sz, nm, co, ns⟩ A c).toArray] w fun e w' => e = .returned (.bool (((ft == 0) && (sz == 0) && (co.toList == []) && ((ns.length : Int) == 0)) && (nm.toList == []))) ∧ Below w.heap.size w w' := by
  have HCO := hide hco
  clear hco
  have HR := hide hr
  have HN := hide hn
  have HB0 := hide (BoxAt.new w ⟨2, wd, ft, sz, nm, co, ns⟩ A c)
  show Calls Try.prog 40 #[.agg #[.int .i64 2, .int .i64 wd, .int .i64 ft, .int .i64 sz, .string nm, .string co, .slice A ns.length c]] w _
  clear hr hn
  obtain ⟨nn, hnn⟩ : ∃ nn, nn = ns.length := ⟨_, rfl⟩
  rw [← hnn]
  have HNN := hide hnn
  clear hnn
  go_enter Try.func40, Try.ntmps40
  go_upto_region 1 with fail
  obtain ⟨w1, hw1⟩ : ∃ w1, w1 = w.alloc (.cells #[.int .i64 2, .int .i64 wd, .int .i64 ft, .int .i64 sz, .string nm, .string co, .slice A nn c] 86) := ⟨_, rfl⟩
  have HB1 : Hid (BoxAt w w1 ⟨2, wd, ft, sz, nm, co, ns⟩ A c) := hide (by rw [hw1, HNN.out]; exact HB0.out)
  rw [← hw1]
  clear hw1 HB0
  obtain ⟨x0, x1, x2, x3, x4, x5, x6⟩ := HB1.out.cells
  rw [← HNN.out] at x6
  obtain ⟨gb, hgb⟩ : ∃ gb, gb = w.heap.size := ⟨_, rfl⟩
  have HGB := hide hgb
  rw [← hgb] at x0 x1 x2 x3 x4 x5 x6 ⊢
  clear hgb
  go_wp2_with (first
    | (go_at_call 67
       refine (colour_any co _).mono ?_
       rw [HCO.out]
       rintro e w2 ⟨rfl, q⟩
       have hb2 := HB1.out.step q
       obtain ⟨z0, z1, z2, z3, z4, z5, z6⟩ := hb2.cells
       rw [← HNN.out] at z6
       rw [← HGB.out] at z0 z1 z2 z3 z4 z5 z6
       have HB2 := hide hb2
       clear q hb2)
    | (go_at_call 68
       refine (named_any nm _).mono ?_
       rintro e w3 ⟨rfl, q⟩
       have hb3 := HB2.out.step q
       obtain ⟨y0, y1, y2, y3, y4, y5, y6⟩ := hb3.cells
       rw [← HNN.out] at y6
       rw [← HGB.out] at y0 y1 y2 y3 y4 y5 y6
       have HB3 := hide hb3
       clear q hb3)
    | (go_at_call 70
       refine (Contains_one nm _ (by omega)).mono ?_
       rintro e w3 ⟨rfl, rfl⟩)
    | (go_at_call 71
       refine (ContainsFunc_int farV 69 (fun _ _ => rfl) (fun c W => Valid1_any c W) A nn c ns (fun _ => True) _ (by rw [HNN.out]; exact HR.out.below HB2.out.bel) (by rw [HNN.out]; exact HN.out)).mono ?_
       rintro e w3 ⟨rfl, rfl⟩))
  all_goals go_ret
  all_goals refine ⟨ret_bool ?_, ?_⟩
  all_goals first
    | exact HB1.out.bel
    | exact HB2.out.bel
    | exact HB3.out.bel
    | rfl
    | (simp_all; done)
    | (simp_all; intros; exfalso; omega)
theorem Valid_3 (wd ft sz : Int) (nm co : ByteArray) (ns : List Int) (A : Option Addr) (c : Nat) (w : World) (hr : Kind.int.Rd w (fun _ => True) A ns.length ns) (hn : ns.length ≤ 9223372036854775807) (g1 : -1000000 ≤ wd) (g2 : wd ≤ 1000000) (g3 : 0 ≤ ft) (g4 : 0 ≤ sz) (hco : colourB co = true) :
    Calls Try.prog 40 #[.agg (BoxT.cells ⟨3, wd, ft, sz, nm, co, ns⟩ A c).toArray] w fun e w' => e = .returned (.bool (((ft == 0) && (sz == 0) && (co.toList == []) && ((ns.length : Int) == 0)) && (nm.toList == []))) ∧ Below w.heap.size w w' := by
  have HCO := hide hco
  clear hco
  have HR := hide hr
  have HN := hide hn
  have HB0 := hide (BoxAt.new w ⟨3, wd, ft, sz, nm, co, ns⟩ A c)
  show Calls Try.prog 40 #[.agg #[.int .i64 3, .int .i64 wd, .int .i64 ft, .int .i64 sz, .string nm, .string co, .slice A ns.length c]] w _
  clear hr hn
  obtain ⟨nn, hnn⟩ : ∃ nn, nn = ns.length := ⟨_, rfl⟩
  rw [← hnn]
  have HNN := hide hnn
  clear hnn
  go_enter Try.func40, Try.ntmps40
  go_upto_region 1 with fail
  obtain ⟨w1, hw1⟩ : ∃ w1, w1 = w.alloc (.cells #[.int .i64 3, .int .i64 wd, .int .i64 ft, .int .i64 sz, .string nm, .string co, .slice A nn c] 86) := ⟨_, rfl⟩
  have HB1 : Hid (BoxAt w w1 ⟨3, wd, ft, sz, nm, co, ns⟩ A c) := hide (by rw [hw1, HNN.out]; exact HB0.out)
  rw [← hw1]
  clear hw1 HB0
  obtain ⟨x0, x1, x2, x3, x4, x5, x6⟩ := HB1.out.cells
  rw [← HNN.out] at x6
  obtain ⟨gb, hgb⟩ : ∃ gb, gb = w.heap.size := ⟨_, rfl⟩
  have HGB := hide hgb
  rw [← hgb] at x0 x1 x2 x3 x4 x5 x6 ⊢
  clear hgb
  go_wp2_with (first
    | (go_at_call 67
       refine (colour_any co _).mono ?_
       rw [HCO.out]
       rintro e w2 ⟨rfl, q⟩
       have hb2 := HB1.out.step q
       obtain ⟨z0, z1, z2, z3, z4, z5, z6⟩ := hb2.cells
       rw [← HNN.out] at z6
       rw [← HGB.out] at z0 z1 z2 z3 z4 z5 z6
       have HB2 := hide hb2
       clear q hb2)
    | (go_at_call 68
       refine (named_any nm _).mono ?_
       rintro e w3 ⟨rfl, q⟩
       have hb3 := HB2.out.step q
       obtain ⟨y0, y1, y2, y3, y4, y5, y6⟩ := hb3.cells
       rw [← HNN.out] at y6
       rw [← HGB.out] at y0 y1 y2 y3 y4 y5 y6
       have HB3 := hide hb3
       clear q hb3)
    | (go_at_call 70
       refine (Contains_one nm _ (by omega)).mono ?_
       rintro e w3 ⟨rfl, rfl⟩)
    | (go_at_call 71
       refine (ContainsFunc_int farV 69 (fun _ _ => rfl) (fun c W => Valid1_any c W) A nn c ns (fun _ => True) _ (by rw [HNN.out]; exact HR.out.below HB2.out.bel) (by rw [HNN.out]; exact HN.out)).mono ?_
       rintro e w3 ⟨rfl, rfl⟩))
  all_goals go_ret
  all_goals refine ⟨ret_bool ?_, ?_⟩
  all_goals first
    | exact HB1.out.bel
    | exact HB2.out.bel
    | exact HB3.out.bel
    | rfl
    | (simp_all; done)
    | (simp_all; intros; exfalso; omega)
theorem Valid_6 (wd ft sz : Int) (nm co : ByteArray) (ns : List Int) (A : Option Addr) (c : Nat) (w : World) (hr : Kind.int.Rd w (fun _ => True) A ns.length ns) (hn : ns.length ≤ 9223372036854775807) (g1 : -1000000 ≤ wd) (g2 : wd ≤ 1000000) (g3 : 0 ≤ ft) (g4 : 0 ≤ sz) (hco : colourB co = true) :
    Calls Try.prog 40 #[.agg (BoxT.cells ⟨6, wd, ft, sz, nm, co, ns⟩ A c).toArray] w fun e w' => e = .returned (.bool (((ft == 0) && (sz == 0) && (co.toList == []) && ((ns.length : Int) == 0)) && (nm.toList == []))) ∧ Below w.heap.size w w' := by
  have HCO := hide hco
  clear hco
  have HR := hide hr
  have HN := hide hn
  have HB0 := hide (BoxAt.new w ⟨6, wd, ft, sz, nm, co, ns⟩ A c)
  show Calls Try.prog 40 #[.agg #[.int .i64 6, .int .i64 wd, .int .i64 ft, .int .i64 sz, .string nm, .string co, .slice A ns.length c]] w _
  clear hr hn
  obtain ⟨nn, hnn⟩ : ∃ nn, nn = ns.length := ⟨_, rfl⟩
  rw [← hnn]
  have HNN := hide hnn
  clear hnn
  go_enter Try.func40, Try.ntmps40
  go_upto_region 1 with fail
  obtain ⟨w1, hw1⟩ : ∃ w1, w1 = w.alloc (.cells #[.int .i64 6, .int .i64 wd, .int .i64 ft, .int .i64 sz, .string nm, .string co, .slice A nn c] 86) := ⟨_, rfl⟩
  have HB1 : Hid (BoxAt w w1 ⟨6, wd, ft, sz, nm, co, ns⟩ A c) := hide (by rw [hw1, HNN.out]; exact HB0.out)
  rw [← hw1]
  clear hw1 HB0
  obtain ⟨x0, x1, x2, x3, x4, x5, x6⟩ := HB1.out.cells
  rw [← HNN.out] at x6
  obtain ⟨gb, hgb⟩ : ∃ gb, gb = w.heap.size := ⟨_, rfl⟩
  have HGB := hide hgb
  rw [← hgb] at x0 x1 x2 x3 x4 x5 x6 ⊢
  clear hgb
  go_wp2_with (first
    | (go_at_call 67
       refine (colour_any co _).mono ?_
       rw [HCO.out]
       rintro e w2 ⟨rfl, q⟩
       have hb2 := HB1.out.step q
       obtain ⟨z0, z1, z2, z3, z4, z5, z6⟩ := hb2.cells
       rw [← HNN.out] at z6
       rw [← HGB.out] at z0 z1 z2 z3 z4 z5 z6
       have HB2 := hide hb2
       clear q hb2)
    | (go_at_call 68
       refine (named_any nm _).mono ?_
       rintro e w3 ⟨rfl, q⟩
       have hb3 := HB2.out.step q
       obtain ⟨y0, y1, y2, y3, y4, y5, y6⟩ := hb3.cells
       rw [← HNN.out] at y6
       rw [← HGB.out] at y0 y1 y2 y3 y4 y5 y6
       have HB3 := hide hb3
       clear q hb3)
    | (go_at_call 70
       refine (Contains_one nm _ (by omega)).mono ?_
       rintro e w3 ⟨rfl, rfl⟩)
    | (go_at_call 71
       refine (ContainsFunc_int farV 69 (fun _ _ => rfl) (fun c W => Valid1_any c W) A nn c ns (fun _ => True) _ (by rw [HNN.out]; exact HR.out.below HB2.out.bel) (by rw [HNN.out]; exact HN.out)).mono ?_
       rintro e w3 ⟨rfl, rfl⟩))
  all_goals go_ret
  all_goals refine ⟨ret_bool ?_, ?_⟩
  all_goals first
    | exact HB1.out.bel
    | exact HB2.out.bel
    | exact HB3.out.bel
    | rfl
    | (simp_all; done)
    | (simp_all; intros; exfalso; omega)
theorem Valid_no (kd : Int) (wd ft sz : Int) (nm co : ByteArray) (ns : List Int) (A : Option Addr) (c : Nat) (w : World) (hr : Kind.int.Rd w (fun _ => True) A ns.length ns) (hn : ns.length ≤ 9223372036854775807) (g1 : -1000000 ≤ wd) (g2 : wd ≤ 1000000) (g3 : 0 ≤ ft) (g4 : 0 ≤ sz) (hco : colourB co = true) (k0 : kd ≠ 0) (k1 : kd ≠ 1) (k2 : kd ≠ 2) (k3 : kd ≠ 3) (k4 : kd ≠ 4) (k5 : kd ≠ 5) (k6 : kd ≠ 6) :
    Calls Try.prog 40 #[.agg (BoxT.cells ⟨kd, wd, ft, sz, nm, co, ns⟩ A c).toArray] w fun e w' => e = .returned (.bool (false)) ∧ Below w.heap.size w w' := by
  have HCO := hide hco
  clear hco
  have j0 : (kd == 0) = false := beq_eq_false_iff_ne.2 k0
  have j1 : (kd == 1) = false := beq_eq_false_iff_ne.2 k1
  have j2 : (kd == 2) = false := beq_eq_false_iff_ne.2 k2
  have j3 : (kd == 3) = false := beq_eq_false_iff_ne.2 k3
  have j4 : (kd == 4) = false := beq_eq_false_iff_ne.2 k4
  have j5 : (kd == 5) = false := beq_eq_false_iff_ne.2 k5
  have j6 : (kd == 6) = false := beq_eq_false_iff_ne.2 k6
  clear k0 k1 k2 k3 k4 k5 k6
  have HR := hide hr
  have HN := hide hn
  have HB0 := hide (BoxAt.new w ⟨kd, wd, ft, sz, nm, co, ns⟩ A c)
  show Calls Try.prog 40 #[.agg #[.int .i64 kd, .int .i64 wd, .int .i64 ft, .int .i64 sz, .string nm, .string co, .slice A ns.length c]] w _
  clear hr hn
  obtain ⟨nn, hnn⟩ : ∃ nn, nn = ns.length := ⟨_, rfl⟩
  rw [← hnn]
  have HNN := hide hnn
  clear hnn
  go_enter Try.func40, Try.ntmps40
  go_upto_region 1 with fail
  obtain ⟨w1, hw1⟩ : ∃ w1, w1 = w.alloc (.cells #[.int .i64 kd, .int .i64 wd, .int .i64 ft, .int .i64 sz, .string nm, .string co, .slice A nn c] 86) := ⟨_, rfl⟩
  have HB1 : Hid (BoxAt w w1 ⟨kd, wd, ft, sz, nm, co, ns⟩ A c) := hide (by rw [hw1, HNN.out]; exact HB0.out)
  rw [← hw1]
  clear hw1 HB0
  obtain ⟨x0, x1, x2, x3, x4, x5, x6⟩ := HB1.out.cells
  rw [← HNN.out] at x6
  obtain ⟨gb, hgb⟩ : ∃ gb, gb = w.heap.size := ⟨_, rfl⟩
  have HGB := hide hgb
  rw [← hgb] at x0 x1 x2 x3 x4 x5 x6 ⊢
  clear hgb
  go_wp2_with (first
    | (go_at_call 67
       refine (colour_any co _).mono ?_
       rw [HCO.out]
       rintro e w2 ⟨rfl, q⟩
       have hb2 := HB1.out.step q
       obtain ⟨z0, z1, z2, z3, z4, z5, z6⟩ := hb2.cells
       rw [← HNN.out] at z6
       rw [← HGB.out] at z0 z1 z2 z3 z4 z5 z6
       have HB2 := hide hb2
       clear q hb2)
    | (go_at_call 68
       refine (named_any nm _).mono ?_
       rintro e w3 ⟨rfl, q⟩
       have hb3 := HB2.out.step q
       obtain ⟨y0, y1, y2, y3, y4, y5, y6⟩ := hb3.cells
       rw [← HNN.out] at y6
       rw [← HGB.out] at y0 y1 y2 y3 y4 y5 y6
       have HB3 := hide hb3
       clear q hb3)
    | (go_at_call 70
       refine (Contains_one nm _ (by omega)).mono ?_
       rintro e w3 ⟨rfl, rfl⟩)
    | (go_at_call 71
       refine (ContainsFunc_int farV 69 (fun _ _ => rfl) (fun c W => Valid1_any c W) A nn c ns (fun _ => True) _ (by rw [HNN.out]; exact HR.out.below HB2.out.bel) (by rw [HNN.out]; exact HN.out)).mono ?_
       rintro e w3 ⟨rfl, rfl⟩))
  all_goals go_ret
  all_goals refine ⟨ret_bool ?_, ?_⟩
  all_goals first
    | exact HB1.out.bel
    | exact HB2.out.bel
    | exact HB3.out.bel
    | rfl
    | (simp_all; done)
    | (simp_all; intros; exfalso; omega)
end Go.Proofs.Ytekkjieoikgpmaa
