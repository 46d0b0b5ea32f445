import Derived.Test.YteadghhmoggjnaaFM11
set_option linter.unusedVariables false
set_option linter.unusedSimpArgs false
section
section
set_option maxHeartbeats 8000000
set_option maxRecDepth 100000
namespace Go.Proofs.YteadghhmoggjnaaB
open Go.RowKit
open Yteadghhmoggjnaa.Q (S33 k33 z33 k33_open k33_mk k33_mkM k33_openF)
open YteadghhmoggjnaaW.PrintWords (Kd ReadsRow)
set_option maxHeartbeats 800000
theorem cell_putObj_none {W : World} {a : Addr} (hlt : a.block < W.heap.size) : (W.putObj a.block (.deferred none)).cell? a = none := by
 have h : (W.putObj a.block (.deferred none)).heap[a.block]? = some (.deferred none) := World.putObj_heap_same hlt
 unfold World.cell?
 rw [h]
theorem C_boxes {w : World} {ok : Nat → Prop} {A : Option Addr} {n : Nat} {l : List S33} (hn : n ≤ 9223372036854775807) (hlen : ∀ x ∈ l, x.f6.length ≤ 9223372036854775807) (h : boxK.Rd w ok A n l) : k33.C w A n l := by
 refine ⟨h.1, hn, fun hp => ?_⟩
 obtain ⟨b, off, rfl, -, -, hc⟩ := h.2 hp
 refine ⟨_, rfl, fun j x hx => ?_⟩
 obtain ⟨cs, ⟨A6, c6, rfl, h6, hr6⟩, hcs⟩ := hc j x hx
 refine ⟨_, rfl, k33_mk w x h6 (C_ints (hlen x (List.mem_of_getElem? hx)) hr6), fun i u hu => ?_⟩
 rw [Addr.add_lit]
 have := hcs i u hu
 rw [← this, Nat.add_assoc]
 rfl
theorem rd_of_F {W : World} {ok : Nat → Prop} {A : Option Addr} {n : Nat} {l : List S33} (h : Kd.F k33 W ok A n l) : boxK.Rd W ok A n l := by
 have h0 := rd_boxes (Kd.F_now h)
 refine ⟨h0.1, fun hp => ?_⟩
 obtain ⟨b, off, rfl, -, hlt, hc⟩ := h0.2 hp
 have hne : ∀ k, ¬ ok k → ∀ j, ok j → j < W.heap.size → (W.putObj k (.deferred none)).heap[j]? = W.heap[j]? := fun k hk j hj _ => World.putObj_heap_other (by rintro rfl; exact hk hj)
 have hb : ok b := by
  apply Classical.byContradiction
  intro hk
  have h1 := rd_boxes (h _ (hne b hk))
  obtain ⟨b', off', e, -, -, hc'⟩ := h1.2 hp
  injection e with e
  injection e with e1 e2
  subst e1
  obtain ⟨x0, hx0⟩ : ∃ x, l[0]? = some x := ⟨_, List.getElem?_eq_getElem (by rw [h0.1]; exact hp)⟩
  obtain ⟨cs, ⟨A6, c6, rfl, -, -⟩, hcs⟩ := hc' 0 x0 hx0
  have h2 := hcs 0 _ rfl
  rw [cell_putObj_none (a := ⟨b, _, none⟩) hlt] at h2
  cases h2
 refine ⟨b, off, rfl, hb, hlt, fun i x hx => ?_⟩
 obtain ⟨cs, ⟨A6, c6, rfl, h6, hr6⟩, hcs⟩ := hc i x hx
 refine ⟨_, ⟨A6, c6, rfl, h6, hr6.1, fun hp6 => ?_⟩, hcs⟩
 obtain ⟨b6, o6, rfl, -, hlt6, hc6⟩ := hr6.2 hp6
 have hb6 : ok b6 := by
  apply Classical.byContradiction
  intro hk
  have h1 := rd_boxes (h _ (hne b6 hk))
  obtain ⟨b', off', e, -, -, hc'⟩ := h1.2 hp
  injection e with e
  injection e with e1 e2
  subst e1
  subst e2
  obtain ⟨cs', ⟨A6', c6', rfl, -, hr6'⟩, hcs'⟩ := hc' i x hx
  have hbb : b ≠ b6 := by rintro rfl; exact hk hb
  have h2 := hcs' 6 _ rfl
  have h3 := hcs 6 _ rfl
  have h4 : (W.putObj b6 (.deferred none)).cell? ⟨b, off + i * boxK.sz + 6, none⟩ = W.cell? ⟨b, off + i * boxK.sz + 6, none⟩ := by
   unfold World.cell?
   rw [World.putObj_heap_other (show b ≠ b6 from hbb)]
  rw [h4, h3] at h2
  injection h2 with h2
  injection h2 with h2 _ _
  subst h2
  obtain ⟨b'', o'', e, -, -, hc''⟩ := hr6'.2 hp6
  injection e with e
  injection e with e1 e2
  subst e1
  obtain ⟨y0, hy0⟩ : ∃ y, x.f6[0]? = some y := ⟨_, List.getElem?_eq_getElem hp6⟩
  obtain ⟨cs', hk', hcs'⟩ := hc'' 0 y0 hy0
  have e1 : cs' = [Value.int .i64 y0] := hk'
  subst e1
  have h5 := hcs' 0 _ rfl
  rw [cell_putObj_none (a := ⟨b6, _, none⟩) hlt6] at h5
  cases h5
 exact ⟨b6, o6, rfl, hb6, hlt6, hc6⟩
theorem rd_of_Fi {W : World} {ok : Nat → Prop} {A : Option Addr} {n : Nat} {l : List Int} (h : Kd.F (Kd.int .i64) W ok A n l) : Kind.int.Rd W ok A n l := by
 have h0 := rd_ints (Kd.F_now h)
 refine ⟨h0.1, fun hp => ?_⟩
 obtain ⟨b, off, rfl, -, hlt, hc⟩ := h0.2 hp
 have hb : ok b := by
  apply Classical.byContradiction
  intro hk
  have h1 := rd_ints (h (W.putObj b (.deferred none)) (fun j hj _ => World.putObj_heap_other (by rintro rfl; exact hk hj)))
  obtain ⟨b', off', e, -, -, hc'⟩ := h1.2 hp
  injection e with e
  injection e with e1 e2
  subst e1
  obtain ⟨x0, hx0⟩ : ∃ x, l[0]? = some x := ⟨_, List.getElem?_eq_getElem (by rw [h0.1]; exact hp)⟩
  obtain ⟨cs, hk', hcs⟩ := hc' 0 x0 hx0
  have e1 : cs = [Value.int .i64 x0] := hk'
  subst e1
  have h2 := hcs 0 _ rfl
  rw [cell_putObj_none (a := ⟨b, _, none⟩) hlt] at h2
  cases h2
 exact ⟨b, off, rfl, hb, hlt, hc⟩
theorem V_of_slrd {w : World} {ok : Nat → Prop} {v : Value} {l : List S33} {e base : Nat} (h : SlRd w ok v l) (hn : l.length ≤ 9223372036854775807) (hlen : ∀ x ∈ l, x.f6.length ≤ 9223372036854775807) : Kd.V k33 e w base ok v l := by
 obtain ⟨A, c, rfl, hc, hr⟩ := h
 exact ⟨A, c, rfl, hc, fun W' hW => C_boxes hn hlen (hr.step hW)⟩
def okL (l : List S33) : Bool := decide (l.length ≤ 1000000000000) && l.all (fun x => decide (x.f6.length ≤ 17592186044416))
theorem okL_len {l : List S33} (h : okL l = true) : l.length ≤ 1000000000000 := by
 unfold okL at h
 rw [Bool.and_eq_true] at h
 exact of_decide_eq_true h.1
theorem okL_small {l : List S33} (h : okL l = true) : ∀ x ∈ l, x.f6.length ≤ 17592186044416 := fun x hx => by
 unfold okL at h
 rw [Bool.and_eq_true] at h
 exact of_decide_eq_true (List.all_eq_true.1 h.2 x hx)
theorem okL_max {l : List S33} (h : okL l = true) : ∀ x ∈ l, x.f6.length ≤ 9223372036854775807 := fun x hx => Nat.le_trans (okL_small h x hx) (by decide)
theorem okL_sub {l l' : List S33} (h : okL l = true) (hl : l'.length ≤ l.length) (hs : ∀ x ∈ l', x ∈ l) : okL l' = true := by
 unfold okL
 rw [Bool.and_eq_true]
 exact ⟨decide_eq_true (Nat.le_trans hl (okL_len h)), List.all_eq_true.2 (fun x hx => decide_eq_true (okL_small h x (hs x hx)))⟩
theorem of_if {α : Type} {b : Bool} {x y : α} (h : (if b = true then some x else none) = some y) : b = true ∧ x = y := by
 cases b with
 | true => exact ⟨rfl, by simpa using h⟩
 | false => simp at h
end Go.Proofs.YteadghhmoggjnaaB
end
section
namespace Go.Proofs.Yteadghhmoggjnaa.Q
open Go.RowKit YteadghhmoggjnaaW.PrintWords YteadghhmoggjnaaW.PrintLast YteadghhmoggjnaaW.PrintMore
attribute [local go_sem] max2_int max_two
def fill_Adjust.f (l0 : List (S33)) (a1 : Int) (a2 : Int) (a3 : Bool) : Option ((List (S33)) × Int × Int) := some (Go.Proofs.YteadghhmoggjnaaB.adjL l0 a1 a2 a3)
theorem fill_Adjust.calls (A0 : Option Addr) (c0 : Nat) (l0 : List (S33)) (a1 : Int) (a2 : Int) (a3 : Bool) (r1 : List (S33)) (r2 : Int) (r3 : Int) (w : World) (hr0 : Kd.C k33 w A0 l0.length l0) (hc0 : l0.length ≤ c0) (h : fill_Adjust.f l0 a1 a2 a3 = some (r1, r2, r3)) :
  Calls Try.prog 11 #[.slice A0 l0.length c0, .int .i64 a1, .int .u8 a2, .bool a3] w fun e w' => ∃ v0_ : Value, e = .returned (.tuple #[v0_, .int .i64 r2, .int .i64 r3]) ∧ Kd.S k33 33 w' w.heap.size (fun _ => True) v0_ r1 ∧ Below w.heap.size w w' := by
 have q := Go.Proofs.YteadghhmoggjnaaB.Adjust_any A0 _ c0 l0 a1 a2 a3 w (Go.Proofs.YteadghhmoggjnaaB.rd_boxes hr0) hr0.2.1 (Go.Proofs.YteadghhmoggjnaaB.lens_of_C hr0)
 rw [Option.some.inj h] at q
 exact q
end Go.Proofs.Yteadghhmoggjnaa.Q
end
section
namespace Go.Proofs.Yteadghhmoggjnaa.Q
open Go.RowKit YteadghhmoggjnaaW.PrintWords YteadghhmoggjnaaW.PrintLast YteadghhmoggjnaaW.PrintMore
attribute [local go_sem] max2_int max_two
def s_Width.l0 : Nat → List (S33) → Int → Int → Option (Int)
 | 0, _, _, _ => none
 | k + 1, x0, x3, x4 => if x4 < (x0.length : Int) then (if 0 ≤ x4 then (if ((rT x0 x4).f0) = 3 then (s_Width.l0 k x0 x3 (wrap64 (x4 + 1))) else (if ((rT x0 x4).f0) = 5 then (s_Width.l0 k x0 x3 (wrap64 (x4 + 1))) else (if ((rT x0 x4).f0) ≥ 0 then (if ((rT x0 x4).f0) ≤ 6 then (s_Width.l0 k x0 (wrap64 (x3 + ((rT x0 x4).f1))) (wrap64 (x4 + 1))) else (s_Width.l0 k x0 x3 (wrap64 (x4 + 1)))) else (s_Width.l0 k x0 x3 (wrap64 (x4 + 1)))))) else (none)) else (some x3)
def s_Width.f (k : Nat) (l0 : List (S33)) : Option (Int) := s_Width.l0 k l0 0 0
theorem s_Width.calls (k : Nat) (A0 : Option Addr) (c0 : Nat) (l0 : List (S33)) (r : Int) (w : World) (hr0 : Kd.C k33 w A0 l0.length l0) (hc0 : l0.length ≤ c0) (h : s_Width.f k l0 = some r) :
  Calls Try.prog 13 #[.slice A0 l0.length c0] w fun e w' => e = .returned (.int .i64 r) ∧ Drawn0 w w' := by
 have HR0 := o_ hr0
 have HC0 := o_ hc0
 clear hr0 hc0
 have H : (s_Width.l0 k l0 0 0) = some r := h
 clear h
 have H' := o_ H
 clear H
 go_enter Try.func13, Try.ntmps13
 go_wp2
 go_loopg [3, 4] k (fun kq v3 v4 w' => ∃ (x3_1 : Int) (x4_1 : Int), v3 = .int .i64 x3_1 ∧ v4 = .int .i64 x4_1 ∧ As (s_Width.l0 kq l0 x3_1 x4_1 = some r) ∧ As (kq ≤ k) ∧ Drawn0 w w')
 case atStart => exact ⟨(0), (0), (by first | rfl | simp [*]), (by first | rfl | simp [*]), H', ⟨Nat.le_refl _⟩, by repeat (first | exact Drawn0.refl _ | apply Drawn0.step)⟩
 case round =>
  clear H'
  obtain ⟨x3_1, x4_1, rfl, rfl, HA, HK1, ⟨m1, rfl⟩⟩ := hrel
  cases gk with
  | zero => exact absurd HA.out (by simp [s_Width.l0])
  | succ k1 =>
   have H := HA.out
   clear HA
   simp only [s_Width.l0] at H
   by_cases c2 : x4_1 < (l0.length : Int)
   rotate_left
   ·rw [if_neg c2] at H
    have c2b0 := decide_eq_false c2
    clear c2
    obtain rfl := Option.some.inj H
    go_wp2
    go_ret
    exact ⟨by first | rfl | (simp; done) | (simp [*]; done), by repeat (first | exact Drawn0.refl _ | apply Drawn0.step)⟩
   rw [if_pos c2] at H
   have c2b0 := decide_eq_true c2
   clear c2
   by_cases c3 : 0 ≤ x4_1
   rotate_left
   ·rw [if_neg c3] at H
    exact absurd H (by simp)
   rw [if_pos c3] at H
   have c3b0 := decide_eq_true c3
   clear c3
   by_cases c4 : ((rT l0 x4_1).f0) = 3
   ·rw [if_pos c4] at H
    have c4b0 : (((rT l0 x4_1).f0) == 3) = true := beq_iff_eq.mpr c4
    have c4b1 : (((rT l0 x4_1).f0) != 3) = false := bne_eq_false_iff_eq.mpr c4
    clear c4
    have H' := o_ H
    clear H
    have p132 : 0 ≤ (x4_1 : Int) := oa
    have q132 : x4_1 < (l0.length : Int) := oa
    obtain ⟨ad132, A132_6, c132_6, e132, hx132_0, hx132_1, hx132_2, hx132_3, hx132_4, hx132_5, hx132_6, hl132_6, hi132_6⟩ := aT HR0.out x4_1 p132 q132
    cases e132
    have HR132_6 := o_ hi132_6
    have HC132_6 := o_ hl132_6
    clear hi132_6 hl132_6
    replace p132 := eq_true p132
    replace q132 := eq_true q132
    go_wp2
    go_roundg k1
    case measure => have := HK1.out; omega
    case rel => exact ⟨(x3_1), (wrap64 (x4_1 + 1)), (by first | rfl | simp [*]), (by first | rfl | simp [*]), H', ⟨by have := HK1.out; omega⟩, by repeat (first | exact Drawn0.refl _ | apply Drawn0.step)⟩
   rw [if_neg c4] at H
   have c4b0 : (((rT l0 x4_1).f0) == 3) = false := beq_eq_false_iff_ne.mpr c4
   have c4b1 : (((rT l0 x4_1).f0) != 3) = true := bne_iff_ne.mpr c4
   by_cases c5 : ((rT l0 x4_1).f0) = 5
   ·rw [if_pos c5] at H
    have c5b0 : (((rT l0 x4_1).f0) == 5) = true := beq_iff_eq.mpr c5
    have c5b1 : (((rT l0 x4_1).f0) != 5) = false := bne_eq_false_iff_eq.mpr c5
    clear c5
    have H' := o_ H
    clear H
    have p132 : 0 ≤ (x4_1 : Int) := oa
    have q132 : x4_1 < (l0.length : Int) := oa
    obtain ⟨ad132, A132_6, c132_6, e132, hx132_0, hx132_1, hx132_2, hx132_3, hx132_4, hx132_5, hx132_6, hl132_6, hi132_6⟩ := aT HR0.out x4_1 p132 q132
    cases e132
    have HR132_6 := o_ hi132_6
    have HC132_6 := o_ hl132_6
    clear hi132_6 hl132_6
    replace p132 := eq_true p132
    replace q132 := eq_true q132
    have p133 : 0 ≤ (x4_1 : Int) := oa
    have q133 : x4_1 < (l0.length : Int) := oa
    obtain ⟨ad133, A133_6, c133_6, e133, hx133_0, hx133_1, hx133_2, hx133_3, hx133_4, hx133_5, hx133_6, hl133_6, hi133_6⟩ := aT HR0.out x4_1 p133 q133
    obtain rfl : ad132 = ad133 := (by injection e133)
    have HR133_6 := o_ hi133_6
    have HC133_6 := o_ hl133_6
    clear hi133_6 hl133_6
    replace p133 := eq_true p133
    replace q133 := eq_true q133
    have ea_ := Option.some.inj (hx132_6.symm.trans hx133_6)
    injection ea_ with ea_ en_ ec_
    subst ea_
    subst ec_
    clear en_
    go_wp2
    go_roundg k1
    case measure => have := HK1.out; omega
    case rel => exact ⟨(x3_1), (wrap64 (x4_1 + 1)), (by first | rfl | simp [*]), (by first | rfl | simp [*]), H', ⟨by have := HK1.out; omega⟩, by repeat (first | exact Drawn0.refl _ | apply Drawn0.step)⟩
   rw [if_neg c5] at H
   have c5b0 : (((rT l0 x4_1).f0) == 5) = false := beq_eq_false_iff_ne.mpr c5
   have c5b1 : (((rT l0 x4_1).f0) != 5) = true := bne_iff_ne.mpr c5
   by_cases c6 : ((rT l0 x4_1).f0) ≥ 0
   rotate_left
   ·rw [if_neg c6] at H
    have c6b0 : decide (0 ≤ ((rT l0 x4_1).f0)) = false := decide_eq_false c6
    clear c6
    have H' := o_ H
    clear H
    have p132 : 0 ≤ (x4_1 : Int) := oa
    have q132 : x4_1 < (l0.length : Int) := oa
    obtain ⟨ad132, A132_6, c132_6, e132, hx132_0, hx132_1, hx132_2, hx132_3, hx132_4, hx132_5, hx132_6, hl132_6, hi132_6⟩ := aT HR0.out x4_1 p132 q132
    cases e132
    have HR132_6 := o_ hi132_6
    have HC132_6 := o_ hl132_6
    clear hi132_6 hl132_6
    replace p132 := eq_true p132
    replace q132 := eq_true q132
    have p133 : 0 ≤ (x4_1 : Int) := oa
    have q133 : x4_1 < (l0.length : Int) := oa
    obtain ⟨ad133, A133_6, c133_6, e133, hx133_0, hx133_1, hx133_2, hx133_3, hx133_4, hx133_5, hx133_6, hl133_6, hi133_6⟩ := aT HR0.out x4_1 p133 q133
    obtain rfl : ad132 = ad133 := (by injection e133)
    have HR133_6 := o_ hi133_6
    have HC133_6 := o_ hl133_6
    clear hi133_6 hl133_6
    replace p133 := eq_true p133
    replace q133 := eq_true q133
    have ea_ := Option.some.inj (hx132_6.symm.trans hx133_6)
    injection ea_ with ea_ en_ ec_
    subst ea_
    subst ec_
    clear en_
    have p134 : 0 ≤ (x4_1 : Int) := oa
    have q134 : x4_1 < (l0.length : Int) := oa
    obtain ⟨ad134, A134_6, c134_6, e134, hx134_0, hx134_1, hx134_2, hx134_3, hx134_4, hx134_5, hx134_6, hl134_6, hi134_6⟩ := aT HR0.out x4_1 p134 q134
    obtain rfl : ad132 = ad134 := (by injection e134)
    have HR134_6 := o_ hi134_6
    have HC134_6 := o_ hl134_6
    clear hi134_6 hl134_6
    replace p134 := eq_true p134
    replace q134 := eq_true q134
    have ea_ := Option.some.inj (hx132_6.symm.trans hx134_6)
    injection ea_ with ea_ en_ ec_
    subst ea_
    subst ec_
    clear en_
    go_wp2
    go_roundg k1
    case measure => have := HK1.out; omega
    case rel => exact ⟨(x3_1), (wrap64 (x4_1 + 1)), (by first | rfl | simp [*]), (by first | rfl | simp [*]), H', ⟨by have := HK1.out; omega⟩, by repeat (first | exact Drawn0.refl _ | apply Drawn0.step)⟩
   rw [if_pos c6] at H
   have c6b0 : decide (0 ≤ ((rT l0 x4_1).f0)) = true := decide_eq_true c6
   clear c6
   by_cases c7 : ((rT l0 x4_1).f0) ≤ 6
   rotate_left
   ·rw [if_neg c7] at H
    have c7b0 := decide_eq_false c7
    clear c7
    have H' := o_ H
    clear H
    have p132 : 0 ≤ (x4_1 : Int) := oa
    have q132 : x4_1 < (l0.length : Int) := oa
    obtain ⟨ad132, A132_6, c132_6, e132, hx132_0, hx132_1, hx132_2, hx132_3, hx132_4, hx132_5, hx132_6, hl132_6, hi132_6⟩ := aT HR0.out x4_1 p132 q132
    cases e132
    have HR132_6 := o_ hi132_6
    have HC132_6 := o_ hl132_6
    clear hi132_6 hl132_6
    replace p132 := eq_true p132
    replace q132 := eq_true q132
    have p133 : 0 ≤ (x4_1 : Int) := oa
    have q133 : x4_1 < (l0.length : Int) := oa
    obtain ⟨ad133, A133_6, c133_6, e133, hx133_0, hx133_1, hx133_2, hx133_3, hx133_4, hx133_5, hx133_6, hl133_6, hi133_6⟩ := aT HR0.out x4_1 p133 q133
    obtain rfl : ad132 = ad133 := (by injection e133)
    have HR133_6 := o_ hi133_6
    have HC133_6 := o_ hl133_6
    clear hi133_6 hl133_6
    replace p133 := eq_true p133
    replace q133 := eq_true q133
    have ea_ := Option.some.inj (hx132_6.symm.trans hx133_6)
    injection ea_ with ea_ en_ ec_
    subst ea_
    subst ec_
    clear en_
    have p134 : 0 ≤ (x4_1 : Int) := oa
    have q134 : x4_1 < (l0.length : Int) := oa
    obtain ⟨ad134, A134_6, c134_6, e134, hx134_0, hx134_1, hx134_2, hx134_3, hx134_4, hx134_5, hx134_6, hl134_6, hi134_6⟩ := aT HR0.out x4_1 p134 q134
    obtain rfl : ad132 = ad134 := (by injection e134)
    have HR134_6 := o_ hi134_6
    have HC134_6 := o_ hl134_6
    clear hi134_6 hl134_6
    replace p134 := eq_true p134
    replace q134 := eq_true q134
    have ea_ := Option.some.inj (hx132_6.symm.trans hx134_6)
    injection ea_ with ea_ en_ ec_
    subst ea_
    subst ec_
    clear en_
    have p135 : 0 ≤ (x4_1 : Int) := oa
    have q135 : x4_1 < (l0.length : Int) := oa
    obtain ⟨ad135, A135_6, c135_6, e135, hx135_0, hx135_1, hx135_2, hx135_3, hx135_4, hx135_5, hx135_6, hl135_6, hi135_6⟩ := aT HR0.out x4_1 p135 q135
    obtain rfl : ad132 = ad135 := (by injection e135)
    have HR135_6 := o_ hi135_6
    have HC135_6 := o_ hl135_6
    clear hi135_6 hl135_6
    replace p135 := eq_true p135
    replace q135 := eq_true q135
    have ea_ := Option.some.inj (hx132_6.symm.trans hx135_6)
    injection ea_ with ea_ en_ ec_
    subst ea_
    subst ec_
    clear en_
    go_wp2
    go_roundg k1
    case measure => have := HK1.out; omega
    case rel => exact ⟨(x3_1), (wrap64 (x4_1 + 1)), (by first | rfl | simp [*]), (by first | rfl | simp [*]), H', ⟨by have := HK1.out; omega⟩, by repeat (first | exact Drawn0.refl _ | apply Drawn0.step)⟩
   rw [if_pos c7] at H
   have c7b0 := decide_eq_true c7
   clear c7
   have H' := o_ H
   clear H
   have p132 : 0 ≤ (x4_1 : Int) := oa
   have q132 : x4_1 < (l0.length : Int) := oa
   obtain ⟨ad132, A132_6, c132_6, e132, hx132_0, hx132_1, hx132_2, hx132_3, hx132_4, hx132_5, hx132_6, hl132_6, hi132_6⟩ := aT HR0.out x4_1 p132 q132
   cases e132
   have HR132_6 := o_ hi132_6
   have HC132_6 := o_ hl132_6
   clear hi132_6 hl132_6
   replace p132 := eq_true p132
   replace q132 := eq_true q132
   have p133 : 0 ≤ (x4_1 : Int) := oa
   have q133 : x4_1 < (l0.length : Int) := oa
   obtain ⟨ad133, A133_6, c133_6, e133, hx133_0, hx133_1, hx133_2, hx133_3, hx133_4, hx133_5, hx133_6, hl133_6, hi133_6⟩ := aT HR0.out x4_1 p133 q133
   obtain rfl : ad132 = ad133 := (by injection e133)
   have HR133_6 := o_ hi133_6
   have HC133_6 := o_ hl133_6
   clear hi133_6 hl133_6
   replace p133 := eq_true p133
   replace q133 := eq_true q133
   have ea_ := Option.some.inj (hx132_6.symm.trans hx133_6)
   injection ea_ with ea_ en_ ec_
   subst ea_
   subst ec_
   clear en_
   have p134 : 0 ≤ (x4_1 : Int) := oa
   have q134 : x4_1 < (l0.length : Int) := oa
   obtain ⟨ad134, A134_6, c134_6, e134, hx134_0, hx134_1, hx134_2, hx134_3, hx134_4, hx134_5, hx134_6, hl134_6, hi134_6⟩ := aT HR0.out x4_1 p134 q134
   obtain rfl : ad132 = ad134 := (by injection e134)
   have HR134_6 := o_ hi134_6
   have HC134_6 := o_ hl134_6
   clear hi134_6 hl134_6
   replace p134 := eq_true p134
   replace q134 := eq_true q134
   have ea_ := Option.some.inj (hx132_6.symm.trans hx134_6)
   injection ea_ with ea_ en_ ec_
   subst ea_
   subst ec_
   clear en_
   have p135 : 0 ≤ (x4_1 : Int) := oa
   have q135 : x4_1 < (l0.length : Int) := oa
   obtain ⟨ad135, A135_6, c135_6, e135, hx135_0, hx135_1, hx135_2, hx135_3, hx135_4, hx135_5, hx135_6, hl135_6, hi135_6⟩ := aT HR0.out x4_1 p135 q135
   obtain rfl : ad132 = ad135 := (by injection e135)
   have HR135_6 := o_ hi135_6
   have HC135_6 := o_ hl135_6
   clear hi135_6 hl135_6
   replace p135 := eq_true p135
   replace q135 := eq_true q135
   have ea_ := Option.some.inj (hx132_6.symm.trans hx135_6)
   injection ea_ with ea_ en_ ec_
   subst ea_
   subst ec_
   clear en_
   have p136 : 0 ≤ (x4_1 : Int) := oa
   have q136 : x4_1 < (l0.length : Int) := oa
   obtain ⟨ad136, A136_6, c136_6, e136, hx136_0, hx136_1, hx136_2, hx136_3, hx136_4, hx136_5, hx136_6, hl136_6, hi136_6⟩ := aT HR0.out x4_1 p136 q136
   obtain rfl : ad132 = ad136 := (by injection e136)
   have HR136_6 := o_ hi136_6
   have HC136_6 := o_ hl136_6
   clear hi136_6 hl136_6
   replace p136 := eq_true p136
   replace q136 := eq_true q136
   have ea_ := Option.some.inj (hx132_6.symm.trans hx136_6)
   injection ea_ with ea_ en_ ec_
   subst ea_
   subst ec_
   clear en_
   go_wp2
   go_roundg k1
   case measure => have := HK1.out; omega
   case rel => exact ⟨(wrap64 (x3_1 + ((rT l0 x4_1).f1))), (wrap64 (x4_1 + 1)), (by first | rfl | simp [*]), (by first | rfl | simp [*]), H', ⟨by have := HK1.out; omega⟩, by repeat (first | exact Drawn0.refl _ | apply Drawn0.step)⟩
end Go.Proofs.Yteadghhmoggjnaa.Q
end
end
section
section
namespace Go.Proofs.Yteadghhmoggjnaa.Q
open Go.RowKit YteadghhmoggjnaaW.PrintWords YteadghhmoggjnaaW.PrintLast YteadghhmoggjnaaW.PrintMore
attribute [local go_sem] max2_int max_two
set_option maxHeartbeats 8000000
set_option maxRecDepth 100000
mutual
def s_SameBox.j0 : Nat → Bool → Int → Int → Int → Int → ByteArray → ByteArray → List Int → Int → Int → Int → Int → ByteArray → ByteArray → List Int → Option (Bool)
 | 0, _, _, _, _, _, _, _, _, _, _, _, _, _, _, _ => none
 | k + 1, x54, hh0, hh1, hh2, hh3, hh4, hh5, hh6, gg0, gg1, gg2, gg3, gg4, gg5, gg6 => if x54 = true then (some false) else (s_SameBox.l0 k 0 hh0 hh1 hh2 hh3 hh4 hh5 hh6 gg0 gg1 gg2 gg3 gg4 gg5 gg6)
def s_SameBox.l0 : Nat → Int → Int → Int → Int → Int → ByteArray → ByteArray → List Int → Int → Int → Int → Int → ByteArray → ByteArray → List Int → Option (Bool)
 | 0, _, _, _, _, _, _, _, _, _, _, _, _, _, _, _ => none
 | k + 1, x5, hh0, hh1, hh2, hh3, hh4, hh5, hh6, gg0, gg1, gg2, gg3, gg4, gg5, gg6 => if x5 < (hh6.length : Int) then (if 0 ≤ x5 then (if x5 < (gg6.length : Int) then (if (rd hh6 x5) = (rd gg6 x5) then (s_SameBox.l0 k (wrap64 (x5 + 1)) hh0 hh1 hh2 hh3 hh4 hh5 hh6 gg0 gg1 gg2 gg3 gg4 gg5 gg6) else (some false)) else (none)) else (none)) else (some true)
end
def s_SameBox.f (k : Nat) (a0_0 : Int) (a0_1 : Int) (a0_2 : Int) (a0_3 : Int) (a0_4 : ByteArray) (a0_5 : ByteArray) (l0_6 : List Int) (a1_0 : Int) (a1_1 : Int) (a1_2 : Int) (a1_3 : Int) (a1_4 : ByteArray) (a1_5 : ByteArray) (l1_6 : List Int) : Option (Bool) := if a0_0 = a1_0 then (if a0_1 = a1_1 then (if a0_2 = a1_2 then (if a0_3 = a1_3 then (if a0_4.toList = a1_4.toList then (if a0_5.toList = a1_5.toList then (s_SameBox.j0 k ((l0_6.length : Int) != (l1_6.length : Int)) a0_0 a0_1 a0_2 a0_3 a0_4 a0_5 l0_6 a1_0 a1_1 a1_2 a1_3 a1_4 a1_5 l1_6) else (s_SameBox.j0 k true a0_0 a0_1 a0_2 a0_3 a0_4 a0_5 l0_6 a1_0 a1_1 a1_2 a1_3 a1_4 a1_5 l1_6)) else (s_SameBox.j0 k true a0_0 a0_1 a0_2 a0_3 a0_4 a0_5 l0_6 a1_0 a1_1 a1_2 a1_3 a1_4 a1_5 l1_6)) else (s_SameBox.j0 k true a0_0 a0_1 a0_2 a0_3 a0_4 a0_5 l0_6 a1_0 a1_1 a1_2 a1_3 a1_4 a1_5 l1_6)) else (s_SameBox.j0 k true a0_0 a0_1 a0_2 a0_3 a0_4 a0_5 l0_6 a1_0 a1_1 a1_2 a1_3 a1_4 a1_5 l1_6)) else (s_SameBox.j0 k true a0_0 a0_1 a0_2 a0_3 a0_4 a0_5 l0_6 a1_0 a1_1 a1_2 a1_3 a1_4 a1_5 l1_6)) else (s_SameBox.j0 k true a0_0 a0_1 a0_2 a0_3 a0_4 a0_5 l0_6 a1_0 a1_1 a1_2 a1_3 a1_4 a1_5 l1_6)
theorem s_SameBox.calls (k : Nat) (a0_0 : Int) (a0_1 : Int) (a0_2 : Int) (a0_3 : Int) (a0_4 : ByteArray) (a0_5 : ByteArray) (A0_6 : Option Addr) (c0_6 : Nat) (l0_6 : List Int) (a1_0 : Int) (a1_1 : Int) (a1_2 : Int) (a1_3 : Int) (a1_4 : ByteArray) (a1_5 : ByteArray) (A1_6 : Option Addr) (c1_6 : Nat) (l1_6 : List Int) (r : Bool) (w : World) (hr0_6 : Kd.C (Kd.int .i64) w A0_6 l0_6.length l0_6) (hc0_6 : l0_6.length ≤ c0_6) (hr1_6 : Kd.C (Kd.int .i64) w A1_6 l1_6.length l1_6) (hc1_6 : l1_6.length ≤ c1_6) (h : s_SameBox.f k a0_0 a0_1 a0_2 a0_3 a0_4 a0_5 l0_6 a1_0 a1_1 a1_2 a1_3 a1_4 a1_5 l1_6 = some r) :
  Calls Try.prog 36 #[.agg #[.int .i64 a0_0, .int .i64 a0_1, .int .i64 a0_2, .int .i64 a0_3, .string a0_4, .string a0_5, .slice A0_6 l0_6.length c0_6], .agg #[.int .i64 a1_0, .int .i64 a1_1, .int .i64 a1_2, .int .i64 a1_3, .string a1_4, .string a1_5, .slice A1_6 l1_6.length c1_6]] w fun e w' => e = .returned (.bool r) ∧ Below w.heap.size w w' := by
 have hu33 := Try.underlying33
 have HR0_6 := o_ hr0_6
 have HC0_6 := o_ hc0_6
 clear hr0_6 hc0_6
 have HR1_6 := o_ hr1_6
 have HC1_6 := o_ hc1_6
 clear hr1_6 hc1_6
 have HB := o_ (Below.refl w.heap.size w)
 have H : (if a0_0 = a1_0 then (if a0_1 = a1_1 then (if a0_2 = a1_2 then (if a0_3 = a1_3 then (if a0_4.toList = a1_4.toList then (if a0_5.toList = a1_5.toList then (s_SameBox.j0 k ((l0_6.length : Int) != (l1_6.length : Int)) a0_0 a0_1 a0_2 a0_3 a0_4 a0_5 l0_6 a1_0 a1_1 a1_2 a1_3 a1_4 a1_5 l1_6) else (s_SameBox.j0 k true a0_0 a0_1 a0_2 a0_3 a0_4 a0_5 l0_6 a1_0 a1_1 a1_2 a1_3 a1_4 a1_5 l1_6)) else (s_SameBox.j0 k true a0_0 a0_1 a0_2 a0_3 a0_4 a0_5 l0_6 a1_0 a1_1 a1_2 a1_3 a1_4 a1_5 l1_6)) else (s_SameBox.j0 k true a0_0 a0_1 a0_2 a0_3 a0_4 a0_5 l0_6 a1_0 a1_1 a1_2 a1_3 a1_4 a1_5 l1_6)) else (s_SameBox.j0 k true a0_0 a0_1 a0_2 a0_3 a0_4 a0_5 l0_6 a1_0 a1_1 a1_2 a1_3 a1_4 a1_5 l1_6)) else (s_SameBox.j0 k true a0_0 a0_1 a0_2 a0_3 a0_4 a0_5 l0_6 a1_0 a1_1 a1_2 a1_3 a1_4 a1_5 l1_6)) else (s_SameBox.j0 k true a0_0 a0_1 a0_2 a0_3 a0_4 a0_5 l0_6 a1_0 a1_1 a1_2 a1_3 a1_4 a1_5 l1_6)) = some r := h
 clear h
 have HC3 := o_ H
 clear H
 go_enter Try.func36, Try.ntmps36
 go_upto_region 1 with (first | ((with_reducible refine gate_dst (N := 2) rfl ?_); (try (refine gate_guard (by rfl) ?_; dsimp only)); refine box_event ?hg (N := 2) ?hd (cs := #[.int .i64 a0_0, .int .i64 a0_1, .int .i64 a0_2, .int .i64 a0_3, .string a0_4, .string a0_5, .slice A0_6 l0_6.length c0_6]) (t := 33) ?hr ?_; (case hd => rfl); (case hg => rfl); (case hr => first | (go_simp; done) | (go_simp; rfl)); intro gb137 hg w4 hbox hb; have n0_ := o_ (below_step (bl HB) hb); have n1_ := o_ (hbox); have n2_ := o_ ((by rw [hg]; exact (below_size (bl HB)) : w.heap.size ≤ gb137)); have n3_ := o_ ((by rw [hg]; exact (below_size (bl HB)) : w.heap.size ≤ gb137)); clear HB; have HB := n0_; have BK137 := n1_; have GW137 := n2_; have GE137 := n3_; clear n0_ n1_ n2_ n3_; clear hb hbox hg) | ((with_reducible refine gate_dst (N := 3) rfl ?_); (try (refine gate_guard (by rfl) ?_; dsimp only)); refine box_event ?hg (N := 3) ?hd (cs := #[.int .i64 a1_0, .int .i64 a1_1, .int .i64 a1_2, .int .i64 a1_3, .string a1_4, .string a1_5, .slice A1_6 l1_6.length c1_6]) (t := 33) ?hr ?_; (case hd => rfl); (case hg => rfl); (case hr => first | (go_simp; done) | (go_simp; rfl)); intro gb138 hg w5 hbox hb; have n0_ := o_ (blk_below (g := gb137) (o := .cells #[.int .i64 a0_0, .int .i64 a0_1, .int .i64 a0_2, .int .i64 a0_3, .string a0_4, .string a0_5, .slice A0_6 l0_6.length c0_6] 33 (0, 0)) (bu BK137) hb); have n1_ := o_ (below_step (bl HB) hb); have n2_ := o_ (hbox); have n3_ := o_ ((by rw [hg]; exact (below_size (bl HB)) : w.heap.size ≤ gb138)); have n4_ := o_ ((by rw [hg]; exact (below_size (bl HB)) : w.heap.size ≤ gb138)); have n5_ := o_ ((by rw [hg]; exact Nat.ne_of_lt (blk_lt (g := gb137) (o := .cells #[.int .i64 a0_0, .int .i64 a0_1, .int .i64 a0_2, .int .i64 a0_3, .string a0_4, .string a0_5, .slice A0_6 l0_6.length c0_6] 33 (0, 0)) (bu BK137)) : gb137 ≠ gb138)); have n6_ := o_ ((by rw [hg]; exact Nat.ne_of_gt (blk_lt (g := gb137) (o := .cells #[.int .i64 a0_0, .int .i64 a0_1, .int .i64 a0_2, .int .i64 a0_3, .string a0_4, .string a0_5, .slice A0_6 l0_6.length c0_6] 33 (0, 0)) (bu BK137)) : gb138 ≠ gb137)); clear BK137; clear HB; have BK137 := n0_; have HB := n1_; have BK138 := n2_; have GW138 := n3_; have GE138 := n4_; have NB137_138 := n5_; have NB138_137 := n6_; clear n0_ n1_ n2_ n3_ n4_ n5_ n6_; clear hb hbox hg))
 repeat (go_quiet (first | ((with_reducible refine gate_dst (N := 2) rfl ?_); (try (refine gate_guard (by rfl) ?_; dsimp only)); refine box_event ?hg (N := 2) ?hd (cs := #[.int .i64 a0_0, .int .i64 a0_1, .int .i64 a0_2, .int .i64 a0_3, .string a0_4, .string a0_5, .slice A0_6 l0_6.length c0_6]) (t := 33) ?hr ?_; (case hd => rfl); (case hg => rfl); (case hr => first | (go_simp; done) | (go_simp; rfl)); intro gb137 hg w4 hbox hb; have n0_ := o_ (below_step (bl HB) hb); have n1_ := o_ (hbox); have n2_ := o_ ((by rw [hg]; exact (below_size (bl HB)) : w.heap.size ≤ gb137)); have n3_ := o_ ((by rw [hg]; exact (below_size (bl HB)) : w.heap.size ≤ gb137)); clear HB; have HB := n0_; have BK137 := n1_; have GW137 := n2_; have GE137 := n3_; clear n0_ n1_ n2_ n3_; clear hb hbox hg) | ((with_reducible refine gate_dst (N := 3) rfl ?_); (try (refine gate_guard (by rfl) ?_; dsimp only)); refine box_event ?hg (N := 3) ?hd (cs := #[.int .i64 a1_0, .int .i64 a1_1, .int .i64 a1_2, .int .i64 a1_3, .string a1_4, .string a1_5, .slice A1_6 l1_6.length c1_6]) (t := 33) ?hr ?_; (case hd => rfl); (case hg => rfl); (case hr => first | (go_simp; done) | (go_simp; rfl)); intro gb138 hg w5 hbox hb; have n0_ := o_ (blk_below (g := gb137) (o := .cells #[.int .i64 a0_0, .int .i64 a0_1, .int .i64 a0_2, .int .i64 a0_3, .string a0_4, .string a0_5, .slice A0_6 l0_6.length c0_6] 33 (0, 0)) (bu BK137) hb); have n1_ := o_ (below_step (bl HB) hb); have n2_ := o_ (hbox); have n3_ := o_ ((by rw [hg]; exact (below_size (bl HB)) : w.heap.size ≤ gb138)); have n4_ := o_ ((by rw [hg]; exact (below_size (bl HB)) : w.heap.size ≤ gb138)); have n5_ := o_ ((by rw [hg]; exact Nat.ne_of_lt (blk_lt (g := gb137) (o := .cells #[.int .i64 a0_0, .int .i64 a0_1, .int .i64 a0_2, .int .i64 a0_3, .string a0_4, .string a0_5, .slice A0_6 l0_6.length c0_6] 33 (0, 0)) (bu BK137)) : gb137 ≠ gb138)); have n6_ := o_ ((by rw [hg]; exact Nat.ne_of_gt (blk_lt (g := gb137) (o := .cells #[.int .i64 a0_0, .int .i64 a0_1, .int .i64 a0_2, .int .i64 a0_3, .string a0_4, .string a0_5, .slice A0_6 l0_6.length c0_6] 33 (0, 0)) (bu BK137)) : gb138 ≠ gb137)); clear BK137; clear HB; have BK137 := n0_; have HB := n1_; have BK138 := n2_; have GW138 := n3_; have GE138 := n4_; have NB137_138 := n5_; have NB138_137 := n6_; clear n0_ n1_ n2_ n3_ n4_ n5_ n6_; clear hb hbox hg)); go_upto_region 1 with (first | ((with_reducible refine gate_dst (N := 2) rfl ?_); (try (refine gate_guard (by rfl) ?_; dsimp only)); refine box_event ?hg (N := 2) ?hd (cs := #[.int .i64 a0_0, .int .i64 a0_1, .int .i64 a0_2, .int .i64 a0_3, .string a0_4, .string a0_5, .slice A0_6 l0_6.length c0_6]) (t := 33) ?hr ?_; (case hd => rfl); (case hg => rfl); (case hr => first | (go_simp; done) | (go_simp; rfl)); intro gb137 hg w4 hbox hb; have n0_ := o_ (below_step (bl HB) hb); have n1_ := o_ (hbox); have n2_ := o_ ((by rw [hg]; exact (below_size (bl HB)) : w.heap.size ≤ gb137)); have n3_ := o_ ((by rw [hg]; exact (below_size (bl HB)) : w.heap.size ≤ gb137)); clear HB; have HB := n0_; have BK137 := n1_; have GW137 := n2_; have GE137 := n3_; clear n0_ n1_ n2_ n3_; clear hb hbox hg) | ((with_reducible refine gate_dst (N := 3) rfl ?_); (try (refine gate_guard (by rfl) ?_; dsimp only)); refine box_event ?hg (N := 3) ?hd (cs := #[.int .i64 a1_0, .int .i64 a1_1, .int .i64 a1_2, .int .i64 a1_3, .string a1_4, .string a1_5, .slice A1_6 l1_6.length c1_6]) (t := 33) ?hr ?_; (case hd => rfl); (case hg => rfl); (case hr => first | (go_simp; done) | (go_simp; rfl)); intro gb138 hg w5 hbox hb; have n0_ := o_ (blk_below (g := gb137) (o := .cells #[.int .i64 a0_0, .int .i64 a0_1, .int .i64 a0_2, .int .i64 a0_3, .string a0_4, .string a0_5, .slice A0_6 l0_6.length c0_6] 33 (0, 0)) (bu BK137) hb); have n1_ := o_ (below_step (bl HB) hb); have n2_ := o_ (hbox); have n3_ := o_ ((by rw [hg]; exact (below_size (bl HB)) : w.heap.size ≤ gb138)); have n4_ := o_ ((by rw [hg]; exact (below_size (bl HB)) : w.heap.size ≤ gb138)); have n5_ := o_ ((by rw [hg]; exact Nat.ne_of_lt (blk_lt (g := gb137) (o := .cells #[.int .i64 a0_0, .int .i64 a0_1, .int .i64 a0_2, .int .i64 a0_3, .string a0_4, .string a0_5, .slice A0_6 l0_6.length c0_6] 33 (0, 0)) (bu BK137)) : gb137 ≠ gb138)); have n6_ := o_ ((by rw [hg]; exact Nat.ne_of_gt (blk_lt (g := gb137) (o := .cells #[.int .i64 a0_0, .int .i64 a0_1, .int .i64 a0_2, .int .i64 a0_3, .string a0_4, .string a0_5, .slice A0_6 l0_6.length c0_6] 33 (0, 0)) (bu BK137)) : gb138 ≠ gb137)); clear BK137; clear HB; have BK137 := n0_; have HB := n1_; have BK138 := n2_; have GW138 := n3_; have GE138 := n4_; have NB137_138 := n5_; have NB138_137 := n6_; clear n0_ n1_ n2_ n3_ n4_ n5_ n6_; clear hb hbox hg)))
 (try simp only [Act.put, List.setIfInBounds_toArray, List.set_cons_zero, List.set_cons_succ])
 go_cut [54] (fun v54 wc => ∃ (kq : Nat) (x54_2 : Bool), v54 = .bool x54_2 ∧ As (s_SameBox.j0 kq x54_2 a0_0 a0_1 a0_2 a0_3 a0_4 a0_5 l0_6 a1_0 a1_1 a1_2 a1_3 a1_4 a1_5 l1_6 = some r) ∧ As (kq ≤ k) ∧ As (wc.heap[gb137]? = some (.cells #[.int .i64 a0_0, .int .i64 a0_1, .int .i64 a0_2, .int .i64 a0_3, .string a0_4, .string a0_5, (.slice A0_6 l0_6.length c0_6)] 33 (0, 0))) ∧ As (wc.heap[gb138]? = some (.cells #[.int .i64 a1_0, .int .i64 a1_1, .int .i64 a1_2, .int .i64 a1_3, .string a1_4, .string a1_5, (.slice A1_6 l1_6.length c1_6)] 33 (0, 0))) ∧ As (Below w.heap.size w wc))
 case first =>
  have H := HC3.out
  clear HC3
  by_cases c6 : a0_0 = a1_0
  rotate_left
  ·rw [if_neg c6] at H
   have c6b0 : (a0_0 == a1_0) = false := beq_eq_false_iff_ne.mpr c6
   have c6b1 : (a0_0 != a1_0) = true := bne_iff_ne.mpr c6
   (first | rw [c6b0] | (simp only [i64_w, i32_w]; rw [c6b0]) | skip)
   have H' := o_ H
   clear H
   have hnb30 := NB137_138.out
   have hnc30 := NB138_137.out
   have z31 := box7 BK137
   have z32 := box7 BK138
   go_wp2
   repeat (go_quiet (fail); try go_wp2)
   go_meet
   case rel => exact ⟨_, (true), (by first | rfl | simp [*]), H', ⟨by first | omega | exact Nat.le_refl _⟩, ⟨bu BK137⟩, ⟨bu BK138⟩, ⟨by repeat (first | (with_reducible first | exact HB.out | apply below_alloc | apply pw_below_drewN | apply below_drew1 | refine below_set ?_ GE137.out | refine below_set ?_ GE138.out) | exact HB.out)⟩⟩
  rw [if_pos c6] at H
  have c6b0 : (a0_0 == a1_0) = true := beq_iff_eq.mpr c6
  have c6b1 : (a0_0 != a1_0) = false := bne_eq_false_iff_eq.mpr c6
  clear c6
  (first | rw [c6b0] | (simp only [i64_w, i32_w]; rw [c6b0]) | skip)
  by_cases c7 : a0_1 = a1_1
  rotate_left
  ·rw [if_neg c7] at H
   have c7b0 : (a0_1 == a1_1) = false := beq_eq_false_iff_ne.mpr c7
   have c7b1 : (a0_1 != a1_1) = true := bne_iff_ne.mpr c7
   have H' := o_ H
   clear H
   have hnb27 := NB137_138.out
   have hnc27 := NB138_137.out
   have z28 := box7 BK137
   have z29 := box7 BK138
   go_wp2
   repeat (go_quiet (fail); try go_wp2)
   go_meet
   case rel => exact ⟨_, (true), (by first | rfl | simp [*]), H', ⟨by first | omega | exact Nat.le_refl _⟩, ⟨bu BK137⟩, ⟨bu BK138⟩, ⟨by repeat (first | (with_reducible first | exact HB.out | apply below_alloc | apply pw_below_drewN | apply below_drew1 | refine below_set ?_ GE137.out | refine below_set ?_ GE138.out) | exact HB.out)⟩⟩
  rw [if_pos c7] at H
  have c7b0 : (a0_1 == a1_1) = true := beq_iff_eq.mpr c7
  have c7b1 : (a0_1 != a1_1) = false := bne_eq_false_iff_eq.mpr c7
  clear c7
  by_cases c8 : a0_2 = a1_2
  rotate_left
  ·rw [if_neg c8] at H
   have c8b0 : (a0_2 == a1_2) = false := beq_eq_false_iff_ne.mpr c8
   have c8b1 : (a0_2 != a1_2) = true := bne_iff_ne.mpr c8
   have H' := o_ H
   clear H
   have hnb24 := NB137_138.out
   have hnc24 := NB138_137.out
   have z25 := box7 BK137
   have z26 := box7 BK138
   go_wp2
   repeat (go_quiet (fail); try go_wp2)
   go_meet
   case rel => exact ⟨_, (true), (by first | rfl | simp [*]), H', ⟨by first | omega | exact Nat.le_refl _⟩, ⟨bu BK137⟩, ⟨bu BK138⟩, ⟨by repeat (first | (with_reducible first | exact HB.out | apply below_alloc | apply pw_below_drewN | apply below_drew1 | refine below_set ?_ GE137.out | refine below_set ?_ GE138.out) | exact HB.out)⟩⟩
  rw [if_pos c8] at H
  have c8b0 : (a0_2 == a1_2) = true := beq_iff_eq.mpr c8
  have c8b1 : (a0_2 != a1_2) = false := bne_eq_false_iff_eq.mpr c8
  clear c8
  by_cases c9 : a0_3 = a1_3
  rotate_left
  ·rw [if_neg c9] at H
   have c9b0 : (a0_3 == a1_3) = false := beq_eq_false_iff_ne.mpr c9
   have c9b1 : (a0_3 != a1_3) = true := bne_iff_ne.mpr c9
   have H' := o_ H
   clear H
   have hnb21 := NB137_138.out
   have hnc21 := NB138_137.out
   have z22 := box7 BK137
   have z23 := box7 BK138
   go_wp2
   repeat (go_quiet (fail); try go_wp2)
   go_meet
   case rel => exact ⟨_, (true), (by first | rfl | simp [*]), H', ⟨by first | omega | exact Nat.le_refl _⟩, ⟨bu BK137⟩, ⟨bu BK138⟩, ⟨by repeat (first | (with_reducible first | exact HB.out | apply below_alloc | apply pw_below_drewN | apply below_drew1 | refine below_set ?_ GE137.out | refine below_set ?_ GE138.out) | exact HB.out)⟩⟩
  rw [if_pos c9] at H
  have c9b0 : (a0_3 == a1_3) = true := beq_iff_eq.mpr c9
  have c9b1 : (a0_3 != a1_3) = false := bne_eq_false_iff_eq.mpr c9
  clear c9
  by_cases c10 : a0_4.toList = a1_4.toList
  rotate_left
  ·rw [if_neg c10] at H
   have c10b0 : (a0_4.toList == a1_4.toList) = false := beq_eq_false_iff_ne.mpr c10
   have c10b1 : (a0_4.toList != a1_4.toList) = true := bne_iff_ne.mpr c10
   have H' := o_ H
   clear H
   have hnb18 := NB137_138.out
   have hnc18 := NB138_137.out
   have z19 := box7 BK137
   have z20 := box7 BK138
   go_wp2
   repeat (go_quiet (fail); try go_wp2)
   go_meet
   case rel => exact ⟨_, (true), (by first | rfl | simp [*]), H', ⟨by first | omega | exact Nat.le_refl _⟩, ⟨bu BK137⟩, ⟨bu BK138⟩, ⟨by repeat (first | (with_reducible first | exact HB.out | apply below_alloc | apply pw_below_drewN | apply below_drew1 | refine below_set ?_ GE137.out | refine below_set ?_ GE138.out) | exact HB.out)⟩⟩
  rw [if_pos c10] at H
  have c10b0 : (a0_4.toList == a1_4.toList) = true := beq_iff_eq.mpr c10
  have c10b1 : (a0_4.toList != a1_4.toList) = false := bne_eq_false_iff_eq.mpr c10
  clear c10
  by_cases c11 : a0_5.toList = a1_5.toList
  rotate_left
  ·rw [if_neg c11] at H
   have c11b0 : (a0_5.toList == a1_5.toList) = false := beq_eq_false_iff_ne.mpr c11
   have c11b1 : (a0_5.toList != a1_5.toList) = true := bne_iff_ne.mpr c11
   have H' := o_ H
   clear H
   have hnb15 := NB137_138.out
   have hnc15 := NB138_137.out
   have z16 := box7 BK137
   have z17 := box7 BK138
   go_wp2
   repeat (go_quiet (fail); try go_wp2)
   go_meet
   case rel => exact ⟨_, (true), (by first | rfl | simp [*]), H', ⟨by first | omega | exact Nat.le_refl _⟩, ⟨bu BK137⟩, ⟨bu BK138⟩, ⟨by repeat (first | (with_reducible first | exact HB.out | apply below_alloc | apply pw_below_drewN | apply below_drew1 | refine below_set ?_ GE137.out | refine below_set ?_ GE138.out) | exact HB.out)⟩⟩
  rw [if_pos c11] at H
  have c11b0 : (a0_5.toList == a1_5.toList) = true := beq_iff_eq.mpr c11
  have c11b1 : (a0_5.toList != a1_5.toList) = false := bne_eq_false_iff_eq.mpr c11
  clear c11
  have H' := o_ H
  clear H
  have hnb12 := NB137_138.out
  have hnc12 := NB138_137.out
  have z13 := box7 BK137
  have z14 := box7 BK138
  go_wp2
  repeat (go_quiet (fail); try go_wp2)
  go_meet
  case rel => exact ⟨_, (((l0_6.length : Int) != (l1_6.length : Int))), (by first | rfl | simp [*]), H', ⟨by first | omega | exact Nat.le_refl _⟩, ⟨bu BK137⟩, ⟨bu BK138⟩, ⟨by repeat (first | (with_reducible first | exact HB.out | apply below_alloc | apply pw_below_drewN | apply below_drew1 | refine below_set ?_ GE137.out | refine below_set ?_ GE138.out) | exact HB.out)⟩⟩
 case rest =>
  clear HC3
  try clear z13
  try clear z14
  try clear z16
  try clear z17
  try clear z19
  try clear z20
  try clear z22
  try clear z23
  try clear z25
  try clear z26
  try clear z28
  try clear z29
  try clear z31
  try clear z32
  obtain ⟨kq, x54_2, rfl, HA, HJ2, BK137, BK138, HB⟩ := hcut
  cases kq with
  | zero => exact absurd HA.out (by simp [s_SameBox.j0])
  | succ kj2 =>
   have H := HA.out
   clear HA
   simp only [s_SameBox.j0] at H
   by_cases c33 : x54_2 = true
   ·subst c33
    have H1 : (some false) = some r := by rw [if_pos rfl] at H; exact H
    clear H
    have H := H1
    clear H1
    obtain rfl := Option.some.inj H
    go_wp2
    repeat (go_quiet (fail); try go_wp2)
    go_ret
    exact ⟨by first | rfl | (simp [*] <;> rfl), by repeat (first | (with_reducible first | exact HB.out | apply below_alloc | apply pw_below_drewN | apply below_drew1 | refine below_set ?_ GE137.out | refine below_set ?_ GE138.out) | exact HB.out)⟩
   replace c33 := Bool.eq_false_iff.mpr c33
   subst c33
   have H1 : (s_SameBox.l0 kj2 0 a0_0 a0_1 a0_2 a0_3 a0_4 a0_5 l0_6 a1_0 a1_1 a1_2 a1_3 a1_4 a1_5 l1_6) = some r := by rw [if_neg (show ¬ (false = true) by decide)] at H; exact H
   clear H
   have H := H1
   clear H1
   have H' := o_ H
   clear H
   go_wp2
   repeat (go_quiet (fail); try go_wp2)
   go_loopg [5] kj2 (fun kq v5 w' => ∃ (x5_2 : Int), v5 = .int .i64 x5_2 ∧ As (s_SameBox.l0 kq x5_2 a0_0 a0_1 a0_2 a0_3 a0_4 a0_5 l0_6 a1_0 a1_1 a1_2 a1_3 a1_4 a1_5 l1_6 = some r) ∧ As (kq ≤ kj2) ∧ As (w'.heap[gb137]? = some (.cells #[.int .i64 a0_0, .int .i64 a0_1, .int .i64 a0_2, .int .i64 a0_3, .string a0_4, .string a0_5, (.slice A0_6 l0_6.length c0_6)] 33 (0, 0))) ∧ As (w'.heap[gb138]? = some (.cells #[.int .i64 a1_0, .int .i64 a1_1, .int .i64 a1_2, .int .i64 a1_3, .string a1_4, .string a1_5, (.slice A1_6 l1_6.length c1_6)] 33 (0, 0))) ∧ As (Below w.heap.size w w'))
   case atStart => exact ⟨(0), (by first | rfl | simp [*]), H', ⟨Nat.le_refl _⟩, ⟨bu BK137⟩, ⟨bu BK138⟩, ⟨by repeat (first | (with_reducible first | exact HB.out | apply below_alloc | apply pw_below_drewN | apply below_drew1 | refine below_set ?_ GE137.out | refine below_set ?_ GE138.out) | exact HB.out)⟩⟩
   case round =>
    clear H'
    try clear z13
    try clear z14
    try clear z16
    try clear z17
    try clear z19
    try clear z20
    try clear z22
    try clear z23
    try clear z25
    try clear z26
    try clear z28
    try clear z29
    try clear z31
    try clear z32
    obtain ⟨x5_2, rfl, HA, HK2, BK137, BK138, HB⟩ := hrel
    cases gk with
    | zero => exact absurd HA.out (by simp [s_SameBox.l0])
    | succ k2 =>
     have H := HA.out
     clear HA
     simp only [s_SameBox.l0] at H
     by_cases c34 : x5_2 < (l0_6.length : Int)
     rotate_left
     ·rw [if_neg c34] at H
      have c34b0 := decide_eq_false c34
      clear c34
      obtain rfl := Option.some.inj H
      have hnb44 := NB137_138.out
      have hnc44 := NB138_137.out
      have z45 := box7 BK137
      go_wp2
      repeat (go_quiet (fail); try go_wp2)
      go_ret
      exact ⟨by first | rfl | (simp [*] <;> rfl), by repeat (first | (with_reducible first | exact HB.out | apply below_alloc | apply pw_below_drewN | apply below_drew1 | refine below_set ?_ GE137.out | refine below_set ?_ GE138.out) | exact HB.out)⟩
     rw [if_pos c34] at H
     have c34b0 := decide_eq_true c34
     clear c34
     by_cases c35 : 0 ≤ x5_2
     rotate_left
     ·rw [if_neg c35] at H
      exact absurd H (by simp)
     rw [if_pos c35] at H
     have c35b0 := decide_eq_true c35
     clear c35
     by_cases c36 : x5_2 < (l1_6.length : Int)
     rotate_left
     ·rw [if_neg c36] at H
      exact absurd H (by simp)
     rw [if_pos c36] at H
     have c36b0 := decide_eq_true c36
     clear c36
     by_cases c37 : (rd l0_6 x5_2) = (rd l1_6 x5_2)
     rotate_left
     ·rw [if_neg c37] at H
      have c37b0 : ((rd l0_6 x5_2) == (rd l1_6 x5_2)) = false := beq_eq_false_iff_ne.mpr c37
      have c37b1 : ((rd l0_6 x5_2) != (rd l1_6 x5_2)) = true := bne_iff_ne.mpr c37
      obtain rfl := Option.some.inj H
      have hnb41 := NB137_138.out
      have hnc41 := NB138_137.out
      have z42 := box7 BK137
      have p139 : 0 ≤ (x5_2 : Int) := oa
      have q139 : x5_2 < (l0_6.length : Int) := oa
      obtain ⟨ad139, e139, hx139_0⟩ := Kd.at_int HR0_6.out x5_2 p139 q139
      cases e139
      replace hx139_0 := ct HB hx139_0
      replace p139 := eq_true p139
      replace q139 := eq_true q139
      have z43 := box7 BK138
      have p140 : 0 ≤ (x5_2 : Int) := oa
      have q140 : x5_2 < (l1_6.length : Int) := oa
      obtain ⟨ad140, e140, hx140_0⟩ := Kd.at_int HR1_6.out x5_2 p140 q140
      cases e140
      replace hx140_0 := ct HB hx140_0
      replace p140 := eq_true p140
      replace q140 := eq_true q140
      go_wp2
      repeat (go_quiet (fail); try go_wp2)
      go_ret
      exact ⟨by first | rfl | (simp [*] <;> rfl), by repeat (first | (with_reducible first | exact HB.out | apply below_alloc | apply pw_below_drewN | apply below_drew1 | refine below_set ?_ GE137.out | refine below_set ?_ GE138.out) | exact HB.out)⟩
     rw [if_pos c37] at H
     have c37b0 : ((rd l0_6 x5_2) == (rd l1_6 x5_2)) = true := beq_iff_eq.mpr c37
     have c37b1 : ((rd l0_6 x5_2) != (rd l1_6 x5_2)) = false := bne_eq_false_iff_eq.mpr c37
     clear c37
     have H' := o_ H
     clear H
     have hnb38 := NB137_138.out
     have hnc38 := NB138_137.out
     have z39 := box7 BK137
     have p139 : 0 ≤ (x5_2 : Int) := oa
     have q139 : x5_2 < (l0_6.length : Int) := oa
     obtain ⟨ad139, e139, hx139_0⟩ := Kd.at_int HR0_6.out x5_2 p139 q139
     cases e139
     replace hx139_0 := ct HB hx139_0
     replace p139 := eq_true p139
     replace q139 := eq_true q139
     have z40 := box7 BK138
     have p140 : 0 ≤ (x5_2 : Int) := oa
     have q140 : x5_2 < (l1_6.length : Int) := oa
     obtain ⟨ad140, e140, hx140_0⟩ := Kd.at_int HR1_6.out x5_2 p140 q140
     cases e140
     replace hx140_0 := ct HB hx140_0
     replace p140 := eq_true p140
     replace q140 := eq_true q140
     go_wp2
     repeat (go_quiet (fail); try go_wp2)
     go_roundg k2
     case measure => have := HJ2.out; have := HK2.out; omega
     case rel => exact ⟨(wrap64 (x5_2 + 1)), (by first | rfl | simp [*]), H', ⟨by have := HJ2.out; have := HK2.out; omega⟩, ⟨bu BK137⟩, ⟨bu BK138⟩, ⟨by repeat (first | (with_reducible first | exact HB.out | apply below_alloc | apply pw_below_drewN | apply below_drew1 | refine below_set ?_ GE137.out | refine below_set ?_ GE138.out) | exact HB.out)⟩⟩
end Go.Proofs.Yteadghhmoggjnaa.Q
end
end
