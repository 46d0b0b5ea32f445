import Derived.Test.YteadghhmoggjnaaFR10
import Derived.Test.YteadghhmoggjnaaFR13
import Derived.Test.YteadghhmoggjnaaFR4
import Derived.Test.YteadghhmoggjnaaFR5
set_option linter.unusedVariables false
set_option linter.unusedSimpArgs false
section
section
set_option maxHeartbeats 8000000
set_option maxRecDepth 100000
namespace Go.Proofs.YteadghhmoggjnaaB
open Go.RowKit
open Go.Proofs.Yteadghhmoggjnaa.Q (S33 k33 z33 k33_open k33_mk k33_mkM k33_openF)
open Go.Proofs.YteadghhmoggjnaaW.PrintWords (Kd ReadsRow)
set_option maxHeartbeats 800000
theorem cell_putObj_none {W : World} {a : Addr} (hlt : a.block < W.heap.size) : (W.putObj a.block (.deferred none)).cell? a = none := by
 have h : (W.putObj a.block (.deferred none)).heap[a.block]? = some (.deferred none) := World.putObj_heap_same hlt
 unfold World.cell?
 rw [h]
theorem C_boxes {w : World} {ok : Nat → Prop} {A : Option Addr} {n : Nat} {l : List S33} (hn : n ≤ 9223372036854775807) (hlen : ∀ x ∈ l, x.f6.length ≤ 9223372036854775807) (h : boxK.Rd w ok A n l) : k33.C w A n l := by
 refine ⟨h.1, hn, fun hp => ?_⟩
 obtain ⟨b, off, rfl, -, -, hc⟩ := h.2 hp
 refine ⟨_, rfl, fun j x hx => ?_⟩
 obtain ⟨cs, ⟨A6, c6, rfl, h6, hr6⟩, hcs⟩ := hc j x hx
 refine ⟨_, rfl, k33_mk w x h6 (C_ints (hlen x (List.mem_of_getElem? hx)) hr6), fun i u hu => ?_⟩
 rw [Addr.add_lit]
 have := hcs i u hu
 rw [← this, Nat.add_assoc]
 rfl
theorem rd_of_F {W : World} {ok : Nat → Prop} {A : Option Addr} {n : Nat} {l : List S33} (h : Kd.F k33 W ok A n l) : boxK.Rd W ok A n l := by
 have h0 := rd_boxes (Kd.F_now h)
 refine ⟨h0.1, fun hp => ?_⟩
 obtain ⟨b, off, rfl, -, hlt, hc⟩ := h0.2 hp
 have hne : ∀ k, ¬ ok k → ∀ j, ok j → j < W.heap.size → (W.putObj k (.deferred none)).heap[j]? = W.heap[j]? := fun k hk j hj _ => World.putObj_heap_other (by rintro rfl; exact hk hj)
 have hb : ok b := by
  apply Classical.byContradiction
  intro hk
  have h1 := rd_boxes (h _ (hne b hk))
  obtain ⟨b', off', e, -, -, hc'⟩ := h1.2 hp
  injection e with e
  injection e with e1 e2
  subst e1
  obtain ⟨x0, hx0⟩ : ∃ x, l[0]? = some x := ⟨_, List.getElem?_eq_getElem (by rw [h0.1]; exact hp)⟩
  obtain ⟨cs, ⟨A6, c6, rfl, -, -⟩, hcs⟩ := hc' 0 x0 hx0
  have h2 := hcs 0 _ rfl
  rw [cell_putObj_none (a := ⟨b, _, none⟩) hlt] at h2
  cases h2
 refine ⟨b, off, rfl, hb, hlt, fun i x hx => ?_⟩
 obtain ⟨cs, ⟨A6, c6, rfl, h6, hr6⟩, hcs⟩ := hc i x hx
 refine ⟨_, ⟨A6, c6, rfl, h6, hr6.1, fun hp6 => ?_⟩, hcs⟩
 obtain ⟨b6, o6, rfl, -, hlt6, hc6⟩ := hr6.2 hp6
 have hb6 : ok b6 := by
  apply Classical.byContradiction
  intro hk
  have h1 := rd_boxes (h _ (hne b6 hk))
  obtain ⟨b', off', e, -, -, hc'⟩ := h1.2 hp
  injection e with e
  injection e with e1 e2
  subst e1
  subst e2
  obtain ⟨cs', ⟨A6', c6', rfl, -, hr6'⟩, hcs'⟩ := hc' i x hx
  have hbb : b ≠ b6 := by rintro rfl; exact hk hb
  have h2 := hcs' 6 _ rfl
  have h3 := hcs 6 _ rfl
  have h4 : (W.putObj b6 (.deferred none)).cell? ⟨b, off + i * boxK.sz + 6, none⟩ = W.cell? ⟨b, off + i * boxK.sz + 6, none⟩ := by
   unfold World.cell?
   rw [World.putObj_heap_other (show b ≠ b6 from hbb)]
  rw [h4, h3] at h2
  injection h2 with h2
  injection h2 with h2 _ _
  subst h2
  obtain ⟨b'', o'', e, -, -, hc''⟩ := hr6'.2 hp6
  injection e with e
  injection e with e1 e2
  subst e1
  obtain ⟨y0, hy0⟩ : ∃ y, x.f6[0]? = some y := ⟨_, List.getElem?_eq_getElem hp6⟩
  obtain ⟨cs', hk', hcs'⟩ := hc'' 0 y0 hy0
  have e1 : cs' = [Value.int .i64 y0] := hk'
  subst e1
  have h5 := hcs' 0 _ rfl
  rw [cell_putObj_none (a := ⟨b6, _, none⟩) hlt6] at h5
  cases h5
 exact ⟨b6, o6, rfl, hb6, hlt6, hc6⟩
theorem rd_of_Fi {W : World} {ok : Nat → Prop} {A : Option Addr} {n : Nat} {l : List Int} (h : Kd.F (Kd.int .i64) W ok A n l) : Kind.int.Rd W ok A n l := by
 have h0 := rd_ints (Kd.F_now h)
 refine ⟨h0.1, fun hp => ?_⟩
 obtain ⟨b, off, rfl, -, hlt, hc⟩ := h0.2 hp
 have hb : ok b := by
  apply Classical.byContradiction
  intro hk
  have h1 := rd_ints (h (W.putObj b (.deferred none)) (fun j hj _ => World.putObj_heap_other (by rintro rfl; exact hk hj)))
  obtain ⟨b', off', e, -, -, hc'⟩ := h1.2 hp
  injection e with e
  injection e with e1 e2
  subst e1
  obtain ⟨x0, hx0⟩ : ∃ x, l[0]? = some x := ⟨_, List.getElem?_eq_getElem (by rw [h0.1]; exact hp)⟩
  obtain ⟨cs, hk', hcs⟩ := hc' 0 x0 hx0
  have e1 : cs = [Value.int .i64 x0] := hk'
  subst e1
  have h2 := hcs 0 _ rfl
  rw [cell_putObj_none (a := ⟨b, _, none⟩) hlt] at h2
  cases h2
 exact ⟨b, off, rfl, hb, hlt, hc⟩
theorem V_of_slrd {w : World} {ok : Nat → Prop} {v : Value} {l : List S33} {e base : Nat} (h : SlRd w ok v l) (hn : l.length ≤ 9223372036854775807) (hlen : ∀ x ∈ l, x.f6.length ≤ 9223372036854775807) : Kd.V k33 e w base ok v l := by
 obtain ⟨A, c, rfl, hc, hr⟩ := h
 exact ⟨A, c, rfl, hc, fun W' hW => C_boxes hn hlen (hr.step hW)⟩
def okL (l : List S33) : Bool := decide (l.length ≤ 1000000000000) && l.all (fun x => decide (x.f6.length ≤ 17592186044416))
theorem okL_len {l : List S33} (h : okL l = true) : l.length ≤ 1000000000000 := by
 unfold okL at h
 rw [Bool.and_eq_true] at h
 exact of_decide_eq_true h.1
theorem okL_small {l : List S33} (h : okL l = true) : ∀ x ∈ l, x.f6.length ≤ 17592186044416 := fun x hx => by
 unfold okL at h
 rw [Bool.and_eq_true] at h
 exact of_decide_eq_true (List.all_eq_true.1 h.2 x hx)
theorem okL_max {l : List S33} (h : okL l = true) : ∀ x ∈ l, x.f6.length ≤ 9223372036854775807 := fun x hx => Nat.le_trans (okL_small h x hx) (by decide)
theorem okL_sub {l l' : List S33} (h : okL l = true) (hl : l'.length ≤ l.length) (hs : ∀ x ∈ l', x ∈ l) : okL l' = true := by
 unfold okL
 rw [Bool.and_eq_true]
 exact ⟨decide_eq_true (Nat.le_trans hl (okL_len h)), List.all_eq_true.2 (fun x hx => decide_eq_true (okL_small h x (hs x hx)))⟩
theorem of_if {α : Type} {b : Bool} {x y : α} (h : (if b = true then some x else none) = some y) : b = true ∧ x = y := by
 cases b with
 | true => exact ⟨rfl, by simpa using h⟩
 | false => simp at h
end Go.Proofs.YteadghhmoggjnaaB
end
section
namespace Go.Proofs.Yteadghhmoggjnaa.Q
open Go.RowKit Go.Proofs.YteadghhmoggjnaaW.PrintWords Go.Proofs.YteadghhmoggjnaaW.PrintLast Go.Proofs.YteadghhmoggjnaaW.PrintMore
attribute [local go_sem] max2_int max_two
def fill_Adjust.f (l0 : List (S33)) (a1 : Int) (a2 : Int) (a3 : Bool) : Option ((List (S33)) × Int × Int) := some (Go.Proofs.YteadghhmoggjnaaB.adjL l0 a1 a2 a3)
theorem fill_Adjust.calls (A0 : Option Addr) (c0 : Nat) (l0 : List (S33)) (a1 : Int) (a2 : Int) (a3 : Bool) (r1 : List (S33)) (r2 : Int) (r3 : Int) (w : World) (hr0 : Kd.C k33 w A0 l0.length l0) (hc0 : l0.length ≤ c0) (h : fill_Adjust.f l0 a1 a2 a3 = some (r1, r2, r3)) :
  Calls Try.prog 11 #[.slice A0 l0.length c0, .int .i64 a1, .int .u8 a2, .bool a3] w fun e w' => ∃ v0_ : Value, e = .returned (.tuple #[v0_, .int .i64 r2, .int .i64 r3]) ∧ Kd.S k33 33 w' w.heap.size (fun _ => True) v0_ r1 ∧ Below w.heap.size w w' := by
 have q := Go.Proofs.YteadghhmoggjnaaB.Adjust_any A0 _ c0 l0 a1 a2 a3 w (Go.Proofs.YteadghhmoggjnaaB.rd_boxes hr0) hr0.2.1 (Go.Proofs.YteadghhmoggjnaaB.lens_of_C hr0)
 rw [Option.some.inj h] at q
 exact q
end Go.Proofs.Yteadghhmoggjnaa.Q
end
section
namespace Go.Proofs.Yteadghhmoggjnaa.Q
open Go.RowKit Go.Proofs.YteadghhmoggjnaaW.PrintWords Go.Proofs.YteadghhmoggjnaaW.PrintLast Go.Proofs.YteadghhmoggjnaaW.PrintMore
attribute [local go_sem] max2_int max_two
def s_Width.l0 : Nat → List (S33) → Int → Int → Option (Int)
 | 0, _, _, _ => none
 | k + 1, x0, x3, x4 => if x4 < (x0.length : Int) then (if 0 ≤ x4 then (if ((rd_T33 x0 x4).f0) = 3 then (s_Width.l0 k x0 x3 (wrap64 (x4 + 1))) else (if ((rd_T33 x0 x4).f0) = 5 then (s_Width.l0 k x0 x3 (wrap64 (x4 + 1))) else (if ((rd_T33 x0 x4).f0) ≥ 0 then (if ((rd_T33 x0 x4).f0) ≤ 6 then (s_Width.l0 k x0 (wrap64 (x3 + ((rd_T33 x0 x4).f1))) (wrap64 (x4 + 1))) else (s_Width.l0 k x0 x3 (wrap64 (x4 + 1)))) else (s_Width.l0 k x0 x3 (wrap64 (x4 + 1)))))) else (none)) else (some x3)
def s_Width.f (k : Nat) (l0 : List (S33)) : Option (Int) := s_Width.l0 k l0 0 0
theorem s_Width.calls (k : Nat) (A0 : Option Addr) (c0 : Nat) (l0 : List (S33)) (r : Int) (w : World) (hr0 : Kd.C k33 w A0 l0.length l0) (hc0 : l0.length ≤ c0) (h : s_Width.f k l0 = some r) :
  Calls Try.prog 13 #[.slice A0 l0.length c0] w fun e w' => e = .returned (.int .i64 r) ∧ Drawn0 w w' := by
 have HR0 := As.mk hr0
 have HC0 := As.mk hc0
 clear hr0 hc0
 have H : (s_Width.l0 k l0 0 0) = some r := h
 clear h
 have H' := As.mk H
 clear H
 go_enter Try.func13, Try.ntmps13
 go_wp2
 go_loopg [3, 4] k (fun kq v3 v4 w' => ∃ (x3_1 : Int) (x4_1 : Int), v3 = .int .i64 x3_1 ∧ v4 = .int .i64 x4_1 ∧ As (s_Width.l0 kq l0 x3_1 x4_1 = some r) ∧ As (kq ≤ k) ∧ Drawn0 w w')
 case atStart => exact ⟨(0), (0), (by first | rfl | simp [*]), (by first | rfl | simp [*]), H', ⟨Nat.le_refl _⟩, by repeat (first | exact Drawn0.refl _ | apply Drawn0.step)⟩
 case round =>
  clear H'
  obtain ⟨x3_1, x4_1, rfl, rfl, HA, HK1, ⟨m1, rfl⟩⟩ := hrel
  cases gk with
  | zero => exact absurd HA.out (by simp [s_Width.l0])
  | succ k1 =>
   have H := HA.out
   clear HA
   simp only [s_Width.l0] at H
   by_cases c2 : x4_1 < (l0.length : Int)
   rotate_left
   ·rw [if_neg c2] at H
    have c2b0 := decide_eq_false c2
    clear c2
    obtain rfl := Option.some.inj H
    go_wp2
    go_ret
    exact ⟨by first | rfl | (simp; done) | (simp [*]; done), by repeat (first | exact Drawn0.refl _ | apply Drawn0.step)⟩
   rw [if_pos c2] at H
   have c2b0 := decide_eq_true c2
   clear c2
   by_cases c3 : 0 ≤ x4_1
   rotate_left
   ·rw [if_neg c3] at H
    exact absurd H (by simp)
   rw [if_pos c3] at H
   have c3b0 := decide_eq_true c3
   clear c3
   by_cases c4 : ((rd_T33 l0 x4_1).f0) = 3
   ·rw [if_pos c4] at H
    have c4b0 : (((rd_T33 l0 x4_1).f0) == 3) = true := beq_iff_eq.mpr c4
    have c4b1 : (((rd_T33 l0 x4_1).f0) != 3) = false := bne_eq_false_iff_eq.mpr c4
    clear c4
    have H' := As.mk H
    clear H
    have p132 : 0 ≤ (x4_1 : Int) := of_decide_eq_true (by with_reducible assumption)
    have q132 : x4_1 < (l0.length : Int) := of_decide_eq_true (by with_reducible assumption)
    obtain ⟨ad132, A132_6, c132_6, e132, hx132_0, hx132_1, hx132_2, hx132_3, hx132_4, hx132_5, hx132_6, hl132_6, hi132_6⟩ := at_T33 HR0.out x4_1 p132 q132
    cases e132
    have HR132_6 := As.mk hi132_6
    have HC132_6 := As.mk hl132_6
    clear hi132_6 hl132_6
    replace p132 := eq_true p132
    replace q132 := eq_true q132
    go_wp2
    go_roundg k1
    case measure => have := HK1.out; omega
    case rel => exact ⟨(x3_1), (wrap64 (x4_1 + 1)), (by first | rfl | simp [*]), (by first | rfl | simp [*]), H', ⟨by have := HK1.out; omega⟩, by repeat (first | exact Drawn0.refl _ | apply Drawn0.step)⟩
   rw [if_neg c4] at H
   have c4b0 : (((rd_T33 l0 x4_1).f0) == 3) = false := beq_eq_false_iff_ne.mpr c4
   have c4b1 : (((rd_T33 l0 x4_1).f0) != 3) = true := bne_iff_ne.mpr c4
   by_cases c5 : ((rd_T33 l0 x4_1).f0) = 5
   ·rw [if_pos c5] at H
    have c5b0 : (((rd_T33 l0 x4_1).f0) == 5) = true := beq_iff_eq.mpr c5
    have c5b1 : (((rd_T33 l0 x4_1).f0) != 5) = false := bne_eq_false_iff_eq.mpr c5
    clear c5
    have H' := As.mk H
    clear H
    have p132 : 0 ≤ (x4_1 : Int) := of_decide_eq_true (by with_reducible assumption)
    have q132 : x4_1 < (l0.length : Int) := of_decide_eq_true (by with_reducible assumption)
    obtain ⟨ad132, A132_6, c132_6, e132, hx132_0, hx132_1, hx132_2, hx132_3, hx132_4, hx132_5, hx132_6, hl132_6, hi132_6⟩ := at_T33 HR0.out x4_1 p132 q132
    cases e132
    have HR132_6 := As.mk hi132_6
    have HC132_6 := As.mk hl132_6
    clear hi132_6 hl132_6
    replace p132 := eq_true p132
    replace q132 := eq_true q132
    have p133 : 0 ≤ (x4_1 : Int) := of_decide_eq_true (by with_reducible assumption)
    have q133 : x4_1 < (l0.length : Int) := of_decide_eq_true (by with_reducible assumption)
    obtain ⟨ad133, A133_6, c133_6, e133, hx133_0, hx133_1, hx133_2, hx133_3, hx133_4, hx133_5, hx133_6, hl133_6, hi133_6⟩ := at_T33 HR0.out x4_1 p133 q133
    obtain rfl : ad132 = ad133 := (by injection e133)
    have HR133_6 := As.mk hi133_6
    have HC133_6 := As.mk hl133_6
    clear hi133_6 hl133_6
    replace p133 := eq_true p133
    replace q133 := eq_true q133
    have ea_ := Option.some.inj (hx132_6.symm.trans hx133_6)
    injection ea_ with ea_ en_ ec_
    subst ea_
    subst ec_
    clear en_
    go_wp2
    go_roundg k1
    case measure => have := HK1.out; omega
    case rel => exact ⟨(x3_1), (wrap64 (x4_1 + 1)), (by first | rfl | simp [*]), (by first | rfl | simp [*]), H', ⟨by have := HK1.out; omega⟩, by repeat (first | exact Drawn0.refl _ | apply Drawn0.step)⟩
   rw [if_neg c5] at H
   have c5b0 : (((rd_T33 l0 x4_1).f0) == 5) = false := beq_eq_false_iff_ne.mpr c5
   have c5b1 : (((rd_T33 l0 x4_1).f0) != 5) = true := bne_iff_ne.mpr c5
   by_cases c6 : ((rd_T33 l0 x4_1).f0) ≥ 0
   rotate_left
   ·rw [if_neg c6] at H
    have c6b0 : decide (0 ≤ ((rd_T33 l0 x4_1).f0)) = false := decide_eq_false c6
    clear c6
    have H' := As.mk H
    clear H
    have p132 : 0 ≤ (x4_1 : Int) := of_decide_eq_true (by with_reducible assumption)
    have q132 : x4_1 < (l0.length : Int) := of_decide_eq_true (by with_reducible assumption)
    obtain ⟨ad132, A132_6, c132_6, e132, hx132_0, hx132_1, hx132_2, hx132_3, hx132_4, hx132_5, hx132_6, hl132_6, hi132_6⟩ := at_T33 HR0.out x4_1 p132 q132
    cases e132
    have HR132_6 := As.mk hi132_6
    have HC132_6 := As.mk hl132_6
    clear hi132_6 hl132_6
    replace p132 := eq_true p132
    replace q132 := eq_true q132
    have p133 : 0 ≤ (x4_1 : Int) := of_decide_eq_true (by with_reducible assumption)
    have q133 : x4_1 < (l0.length : Int) := of_decide_eq_true (by with_reducible assumption)
    obtain ⟨ad133, A133_6, c133_6, e133, hx133_0, hx133_1, hx133_2, hx133_3, hx133_4, hx133_5, hx133_6, hl133_6, hi133_6⟩ := at_T33 HR0.out x4_1 p133 q133
    obtain rfl : ad132 = ad133 := (by injection e133)
    have HR133_6 := As.mk hi133_6
    have HC133_6 := As.mk hl133_6
    clear hi133_6 hl133_6
    replace p133 := eq_true p133
    replace q133 := eq_true q133
    have ea_ := Option.some.inj (hx132_6.symm.trans hx133_6)
    injection ea_ with ea_ en_ ec_
    subst ea_
    subst ec_
    clear en_
    have p134 : 0 ≤ (x4_1 : Int) := of_decide_eq_true (by with_reducible assumption)
    have q134 : x4_1 < (l0.length : Int) := of_decide_eq_true (by with_reducible assumption)
    obtain ⟨ad134, A134_6, c134_6, e134, hx134_0, hx134_1, hx134_2, hx134_3, hx134_4, hx134_5, hx134_6, hl134_6, hi134_6⟩ := at_T33 HR0.out x4_1 p134 q134
    obtain rfl : ad132 = ad134 := (by injection e134)
    have HR134_6 := As.mk hi134_6
    have HC134_6 := As.mk hl134_6
    clear hi134_6 hl134_6
    replace p134 := eq_true p134
    replace q134 := eq_true q134
    have ea_ := Option.some.inj (hx132_6.symm.trans hx134_6)
    injection ea_ with ea_ en_ ec_
    subst ea_
    subst ec_
    clear en_
    go_wp2
    go_roundg k1
    case measure => have := HK1.out; omega
    case rel => exact ⟨(x3_1), (wrap64 (x4_1 + 1)), (by first | rfl | simp [*]), (by first | rfl | simp [*]), H', ⟨by have := HK1.out; omega⟩, by repeat (first | exact Drawn0.refl _ | apply Drawn0.step)⟩
   rw [if_pos c6] at H
   have c6b0 : decide (0 ≤ ((rd_T33 l0 x4_1).f0)) = true := decide_eq_true c6
   clear c6
   by_cases c7 : ((rd_T33 l0 x4_1).f0) ≤ 6
   rotate_left
   ·rw [if_neg c7] at H
    have c7b0 := decide_eq_false c7
    clear c7
    have H' := As.mk H
    clear H
    have p132 : 0 ≤ (x4_1 : Int) := of_decide_eq_true (by with_reducible assumption)
    have q132 : x4_1 < (l0.length : Int) := of_decide_eq_true (by with_reducible assumption)
    obtain ⟨ad132, A132_6, c132_6, e132, hx132_0, hx132_1, hx132_2, hx132_3, hx132_4, hx132_5, hx132_6, hl132_6, hi132_6⟩ := at_T33 HR0.out x4_1 p132 q132
    cases e132
    have HR132_6 := As.mk hi132_6
    have HC132_6 := As.mk hl132_6
    clear hi132_6 hl132_6
    replace p132 := eq_true p132
    replace q132 := eq_true q132
    have p133 : 0 ≤ (x4_1 : Int) := of_decide_eq_true (by with_reducible assumption)
    have q133 : x4_1 < (l0.length : Int) := of_decide_eq_true (by with_reducible assumption)
    obtain ⟨ad133, A133_6, c133_6, e133, hx133_0, hx133_1, hx133_2, hx133_3, hx133_4, hx133_5, hx133_6, hl133_6, hi133_6⟩ := at_T33 HR0.out x4_1 p133 q133
    obtain rfl : ad132 = ad133 := (by injection e133)
    have HR133_6 := As.mk hi133_6
    have HC133_6 := As.mk hl133_6
    clear hi133_6 hl133_6
    replace p133 := eq_true p133
    replace q133 := eq_true q133
    have ea_ := Option.some.inj (hx132_6.symm.trans hx133_6)
    injection ea_ with ea_ en_ ec_
    subst ea_
    subst ec_
    clear en_
    have p134 : 0 ≤ (x4_1 : Int) := of_decide_eq_true (by with_reducible assumption)
    have q134 : x4_1 < (l0.length : Int) := of_decide_eq_true (by with_reducible assumption)
    obtain ⟨ad134, A134_6, c134_6, e134, hx134_0, hx134_1, hx134_2, hx134_3, hx134_4, hx134_5, hx134_6, hl134_6, hi134_6⟩ := at_T33 HR0.out x4_1 p134 q134
    obtain rfl : ad132 = ad134 := (by injection e134)
    have HR134_6 := As.mk hi134_6
    have HC134_6 := As.mk hl134_6
    clear hi134_6 hl134_6
    replace p134 := eq_true p134
    replace q134 := eq_true q134
    have ea_ := Option.some.inj (hx132_6.symm.trans hx134_6)
    injection ea_ with ea_ en_ ec_
    subst ea_
    subst ec_
    clear en_
    have p135 : 0 ≤ (x4_1 : Int) := of_decide_eq_true (by with_reducible assumption)
    have q135 : x4_1 < (l0.length : Int) := of_decide_eq_true (by with_reducible assumption)
    obtain ⟨ad135, A135_6, c135_6, e135, hx135_0, hx135_1, hx135_2, hx135_3, hx135_4, hx135_5, hx135_6, hl135_6, hi135_6⟩ := at_T33 HR0.out x4_1 p135 q135
    obtain rfl : ad132 = ad135 := (by injection e135)
    have HR135_6 := As.mk hi135_6
    have HC135_6 := As.mk hl135_6
    clear hi135_6 hl135_6
    replace p135 := eq_true p135
    replace q135 := eq_true q135
    have ea_ := Option.some.inj (hx132_6.symm.trans hx135_6)
    injection ea_ with ea_ en_ ec_
    subst ea_
    subst ec_
    clear en_
    go_wp2
    go_roundg k1
    case measure => have := HK1.out; omega
    case rel => exact ⟨(x3_1), (wrap64 (x4_1 + 1)), (by first | rfl | simp [*]), (by first | rfl | simp [*]), H', ⟨by have := HK1.out; omega⟩, by repeat (first | exact Drawn0.refl _ | apply Drawn0.step)⟩
   rw [if_pos c7] at H
   have c7b0 := decide_eq_true c7
   clear c7
   have H' := As.mk H
   clear H
   have p132 : 0 ≤ (x4_1 : Int) := of_decide_eq_true (by with_reducible assumption)
   have q132 : x4_1 < (l0.length : Int) := of_decide_eq_true (by with_reducible assumption)
   obtain ⟨ad132, A132_6, c132_6, e132, hx132_0, hx132_1, hx132_2, hx132_3, hx132_4, hx132_5, hx132_6, hl132_6, hi132_6⟩ := at_T33 HR0.out x4_1 p132 q132
   cases e132
   have HR132_6 := As.mk hi132_6
   have HC132_6 := As.mk hl132_6
   clear hi132_6 hl132_6
   replace p132 := eq_true p132
   replace q132 := eq_true q132
   have p133 : 0 ≤ (x4_1 : Int) := of_decide_eq_true (by with_reducible assumption)
   have q133 : x4_1 < (l0.length : Int) := of_decide_eq_true (by with_reducible assumption)
   obtain ⟨ad133, A133_6, c133_6, e133, hx133_0, hx133_1, hx133_2, hx133_3, hx133_4, hx133_5, hx133_6, hl133_6, hi133_6⟩ := at_T33 HR0.out x4_1 p133 q133
   obtain rfl : ad132 = ad133 := (by injection e133)
   have HR133_6 := As.mk hi133_6
   have HC133_6 := As.mk hl133_6
   clear hi133_6 hl133_6
   replace p133 := eq_true p133
   replace q133 := eq_true q133
   have ea_ := Option.some.inj (hx132_6.symm.trans hx133_6)
   injection ea_ with ea_ en_ ec_
   subst ea_
   subst ec_
   clear en_
   have p134 : 0 ≤ (x4_1 : Int) := of_decide_eq_true (by with_reducible assumption)
   have q134 : x4_1 < (l0.length : Int) := of_decide_eq_true (by with_reducible assumption)
   obtain ⟨ad134, A134_6, c134_6, e134, hx134_0, hx134_1, hx134_2, hx134_3, hx134_4, hx134_5, hx134_6, hl134_6, hi134_6⟩ := at_T33 HR0.out x4_1 p134 q134
   obtain rfl : ad132 = ad134 := (by injection e134)
   have HR134_6 := As.mk hi134_6
   have HC134_6 := As.mk hl134_6
   clear hi134_6 hl134_6
   replace p134 := eq_true p134
   replace q134 := eq_true q134
   have ea_ := Option.some.inj (hx132_6.symm.trans hx134_6)
   injection ea_ with ea_ en_ ec_
   subst ea_
   subst ec_
   clear en_
   have p135 : 0 ≤ (x4_1 : Int) := of_decide_eq_true (by with_reducible assumption)
   have q135 : x4_1 < (l0.length : Int) := of_decide_eq_true (by with_reducible assumption)
   obtain ⟨ad135, A135_6, c135_6, e135, hx135_0, hx135_1, hx135_2, hx135_3, hx135_4, hx135_5, hx135_6, hl135_6, hi135_6⟩ := at_T33 HR0.out x4_1 p135 q135
   obtain rfl : ad132 = ad135 := (by injection e135)
   have HR135_6 := As.mk hi135_6
   have HC135_6 := As.mk hl135_6
   clear hi135_6 hl135_6
   replace p135 := eq_true p135
   replace q135 := eq_true q135
   have ea_ := Option.some.inj (hx132_6.symm.trans hx135_6)
   injection ea_ with ea_ en_ ec_
   subst ea_
   subst ec_
   clear en_
   have p136 : 0 ≤ (x4_1 : Int) := of_decide_eq_true (by with_reducible assumption)
   have q136 : x4_1 < (l0.length : Int) := of_decide_eq_true (by with_reducible assumption)
   obtain ⟨ad136, A136_6, c136_6, e136, hx136_0, hx136_1, hx136_2, hx136_3, hx136_4, hx136_5, hx136_6, hl136_6, hi136_6⟩ := at_T33 HR0.out x4_1 p136 q136
   obtain rfl : ad132 = ad136 := (by injection e136)
   have HR136_6 := As.mk hi136_6
   have HC136_6 := As.mk hl136_6
   clear hi136_6 hl136_6
   replace p136 := eq_true p136
   replace q136 := eq_true q136
   have ea_ := Option.some.inj (hx132_6.symm.trans hx136_6)
   injection ea_ with ea_ en_ ec_
   subst ea_
   subst ec_
   clear en_
   go_wp2
   go_roundg k1
   case measure => have := HK1.out; omega
   case rel => exact ⟨(wrap64 (x3_1 + ((rd_T33 l0 x4_1).f1))), (wrap64 (x4_1 + 1)), (by first | rfl | simp [*]), (by first | rfl | simp [*]), H', ⟨by have := HK1.out; omega⟩, by repeat (first | exact Drawn0.refl _ | apply Drawn0.step)⟩
end Go.Proofs.Yteadghhmoggjnaa.Q
end
end
