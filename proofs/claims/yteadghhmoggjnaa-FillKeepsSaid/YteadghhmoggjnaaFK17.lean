import Derived.Test.YteadghhmoggjnaaFK14
import Derived.Test.YteadghhmoggjnaaFK15
import Derived.Test.YteadghhmoggjnaaFK16
import Derived.Test.YteadghhmoggjnaaFK3
section
/- Plain laws of fill.Break: its lines, one behind the other. -/
set_option linter.unusedVariables false
set_option linter.unusedSimpArgs false
namespace Go.Proofs.YteadghhmoggjnaaB
open Go.RowKit
open Go.Proofs.Yteadghhmoggjnaa.Q
open Go.Proofs.YteadghhmoggjnaaW.PrintWords Go.Proofs.YteadghhmoggjnaaW.PrintLast
set_option maxHeartbeats 1600000
theorem box_fit' (n : Int) : Fit (boxOf n) := by
 obtain ⟨h1, h2, -⟩ := boxOf_ok n
 refine ⟨by rw [h2]; exact Nat.zero_le _, ?_, ?_⟩
 ·have hc : colourB (boxOf n).f5 = true := by
   unfold validB at h1
   simp only [Bool.and_eq_true, Bool.not_eq_true', Bool.or_eq_false_iff, Bool.not_eq_false'] at h1
   exact h1.1.2
  unfold colourB at hc
  rw [Bool.and_eq_true] at hc
  have := of_decide_eq_true hc.1
  omega
 ·unfold boxOf boxRQ
  split
  ·exact Nat.zero_le _
  ·split
   ·exact Nat.zero_le _
   ·split
    ·show (1 : Nat) ≤ _; omega
    ·split
     ·exact Nat.zero_le _
     ·split
      ·exact Nat.zero_le _
      ·show (letter _).size ≤ _
       unfold letter
       rw [ByteArray.size_extract]
       have : (⟨#[97, 98, 99, 100, 101, 102, 103, 104]⟩ : ByteArray).size = 8 := rfl
       rw [this]
       omega
theorem okL_of' {l : List S33} (hl : l.length ≤ 1000000) (h6 : ∀ x ∈ l, x.f6.length ≤ 17592186044415) : okL l = true := by
 unfold okL
 rw [Bool.and_eq_true]
 exact ⟨decide_eq_true (by omega), List.all_eq_true.2 (fun x hx => decide_eq_true (by have := h6 x hx; omega))⟩
theorem rest_ev' (l : List S33) : Ev (fun k => fill_rest.f k l) (restL l) := Ev.of (fun k => fill_rest.mono l k) (frest_f l)
theorem cut_lt (R : List S33) (h : S33) (i : Nat) (p : Int) (hR : 0 < R.length) : (ansCut R h i p).2.1.length < R.length := by
 unfold ansCut
 have h1 := restL_le (R.drop (begA R i + p.toNat + 1))
 rw [List.length_drop] at h1
 show (restL (R.drop (begA R i + p.toNat + 1))).length < _
 omega
theorem at_lt (R : List S33) (len : Int) (h : S33) (i : Nat) (hi : i < R.length) (hb : begA R i ≠ R.length) : (ansAt R len h i).2.1.length < R.length := by
 unfold ansAt
 split
 ·exact cut_lt R h i _ (by omega)
 ·split
  ·have h1 := restL_le (R.drop i)
   rw [List.length_drop] at h1
   show (restL (R.drop i)).length < _
   omega
  ·split
   ·exact cut_lt R h i _ (by omega)
   ·have h1 := restL_le (R.drop (stopA R i))
    rw [List.length_drop] at h1
    have h2 := stopA_gt hi hb
    show (restL (R.drop (stopA R i))).length < _
    omega
theorem go_lt (R : List S33) (len : Int) (h : S33) (hR : 0 < R.length) : ∀ f i, (takeGo R len h f i).2.1.length < R.length
 | 0, i => hR
 | f + 1, i => by
  unfold takeGo
  split
  ·rename_i hi
   split
   ·exact hR
   ·rename_i hb
    split
    ·exact go_lt R len h hR f _
    ·exact at_lt R len h i hi hb
  ·exact hR
theorem takeL_lt' (l : List S33) (len : Int) (h : S33) (hl : 0 < (restL l).length) : (takeL l len h).2.1.length < l.length := by
 have h1 := go_lt (restL l) len h hl ((restL l).length + 1) 0
 have h2 := restL_le l
 unfold takeL
 omega
/-- The lines of a row. -/
def breakGo : Nat → List S33 → Int → Int → S33 → List (List S33)
 | 0, _, _, _, _ => []
 | f + 1, l, a1, a2, h => if 0 < (restL l).length then (takeL l a1 h).1 :: breakGo f (takeL l a1 h).2.1 a2 a2 h else []
theorem fill_Break_l (h : S33) (a2 : Int) (hh : Fit h) : ∀ (f : Nat) (l : List S33) (acc : List (List S33)) (len : Int), l.length < f → l.length ≤ 5000 → acc.length + l.length ≤ 100000 → (∀ x ∈ l, Fit x) →
  Ev (fun k => fill_Break.l0 k l a2 acc len h.f0 h.f1 h.f2 h.f3 h.f4 h.f5 h.f6) (acc ++ breakGo f l len a2 h, 0)
 | 0, l, acc, len, hf, hl, ha, hx => by omega
 | f + 1, l, acc, len, hf, hl, ha, hx => by
  show Ev _ (acc ++ (if 0 < (restL l).length then (takeL l len h).1 :: breakGo f (takeL l len h).2.1 a2 a2 h else []), 0)
  by_cases hr : 0 < (restL l).length
  ·rw [if_pos hr]
   have hlt := takeL_lt' l len h hr
   obtain ⟨q1, q2, p3, p4⟩ := parts_take l len h
   have ht : fill_take.f l len h.f0 h.f1 h.f2 h.f3 h.f4 h.f5 h.f6 = some (takeL l len h) := if_pos (okL_of' (by omega) (fun x h => (hx x h).1))
   have ho : fill_own.f (takeL l len h).1 = some (takeL l len h).1 := if_pos (okL_of' (by omega) (fun x h0 => by
    rcases q2 x h0 with e | rfl
    ·exact (hx x e).1
    ·exact hh.1))
   have ih := fill_Break_l h a2 hh f (takeL l len h).2.1 (acc ++ [(takeL l len h).1]) a2 (by omega) (by omega) (by rw [List.length_append, List.length_singleton]; omega) (fun x h0 => hx x (p4 x h0))
   rw [List.append_assoc] at ih
   refine Ev.step (fun k => by rw [fill_Break.l0]) (Ev.bind (rest_ev' l) ?_)
   refine ev_pos (by omega) (ev_known ht (ev_known ho ?_))
   exact ev_pos (by omega) ih
  ·rw [if_neg hr, List.append_nil]
   refine Ev.step (fun k => by rw [fill_Break.l0]) (Ev.bind (rest_ev' l) ?_)
   exact ev_neg (by omega) (ev_now rfl)
theorem fill_Break_ok (l : List S33) (a1 a2 : Int) (h : S33) (hl : l.length ≤ 5000) (hx : ∀ x ∈ l, Fit x) (hh : Fit h) (hb : hyphB h = true) (hv : l.all validB = true) (h1 : 0 ≤ a1 ∧ a1 ≤ 10000000) (h2 : 0 ≤ a2 ∧ a2 ≤ 10000000) :
  Ev (fun k => fill_Break.f k l a1 a2 h.f0 h.f1 h.f2 h.f3 h.f4 h.f5 h.f6) (breakGo (l.length + 1) l a1 a2 h, 0) := by
 have hc : fill_check.f l [a1, a2] = some (checkI l [a1, a2]) := rfl
 have hfar : allI farL [a1, a2] = true := by
  unfold allI farL
  rw [List.all_cons, List.all_cons, List.all_nil, decide_eq_false (by omega : ¬ a1 < 0), decide_eq_false (by omega : ¬ 10000000 < a1), decide_eq_false (by omega : ¬ a2 < 0), decide_eq_false (by omega : ¬ 10000000 < a2)]
  rfl
 have hck : checkI l [a1, a2] = 0 := by
  unfold checkI
  rw [hv, hfar]
  show (if (false : Bool) = true then _ else _) = _
  rw [if_neg (by decide), if_neg (by omega)]
 refine ev_known (fill_hyph h) ?_
 rw [hb]
 refine ev_pos rfl (ev_known hc ?_)
 rw [hck]
 have hgo := fill_Break_l h a2 hh (l.length + 1) l [] a1 (by omega) hl (by rw [List.length_nil]; omega) hx
 exact ev_pos rfl hgo
theorem breakGo_len (h : S33) : ∀ (f : Nat) (l : List S33) (a1 a2 : Int), (breakGo f l a1 a2 h).length ≤ l.length
 | 0, l, a1, a2 => Nat.zero_le _
 | f + 1, l, a1, a2 => by
  unfold breakGo
  split
  ·rename_i hr
   have := breakGo_len h f (takeL l a1 h).2.1 a2 a2
   have := takeL_lt' l a1 h hr
   rw [List.length_cons]
   omega
  ·exact Nat.zero_le _
/-- Every line of a row is a line of one of its rests. -/
theorem breakGo_all (h : S33) (C : S33 → Prop) (Q : List S33 → Prop) : ∀ (f : Nat) (l : List S33) (a1 a2 : Int), (∀ x ∈ l, C x) → (∀ l', l'.length ≤ l.length → (∀ x ∈ l', C x) → Q (takeL l' a1 h).1 ∧ Q (takeL l' a2 h).1) → ∀ y ∈ breakGo f l a1 a2 h, Q y
 | 0, l, a1, a2, hC, hQ, y, hy => by cases hy
 | f + 1, l, a1, a2, hC, hQ, y, hy => by
  unfold breakGo at hy
  split at hy
  ·obtain ⟨-, -, p3, p4⟩ := parts_take l a1 h
   rcases List.mem_cons.1 hy with rfl | hy
   ·exact (hQ l (Nat.le_refl _) hC).1
   ·exact breakGo_all h C Q f _ a2 a2 (fun x hx => hC x (p4 x hx)) (fun l' hl' hC' => ⟨(hQ l' (by omega) hC').2, (hQ l' (by omega) hC').2⟩) y hy
  ·cases hy
end Go.Proofs.YteadghhmoggjnaaB
end
section
namespace Go.Proofs.Yteadghhmoggjnaa.Q
open Go.RowKit Go.Proofs.YteadghhmoggjnaaW.PrintWords Go.Proofs.YteadghhmoggjnaaW.PrintLast

set_option linter.unusedVariables false
set_option linter.unusedSimpArgs false
/-! ### frisketlaw11_content: function 20 -/
def frisketlaw11_content.l0 : Nat → List (S33) → ByteArray → Int → Option (ByteArray)
 | 0, _, _, _ => none
 | k + 1, x0, x3, x4 => if x4 < (x0.length : Int) then (if 0 ≤ x4 then (if ((rd_T33 x0 x4).f0) = 0 then (if x3.size + ((rd_T33 x0 x4).f4).size ≤ 9223372036854775807 then (frisketlaw11_content.l0 k x0 (x3 ++ ((rd_T33 x0 x4).f4)) (wrap64 (x4 + 1))) else (none)) else (frisketlaw11_content.l0 k x0 x3 (wrap64 (x4 + 1)))) else (none)) else (some x3)
def frisketlaw11_content.f (k : Nat) (l0 : List (S33)) : Option (ByteArray) := frisketlaw11_content.l0 k l0 (⟨#[]⟩ : ByteArray) 0
set_option maxHeartbeats 8000000 in
set_option maxRecDepth 100000 in
theorem frisketlaw11_content.calls (k : Nat) (A0 : Option Addr) (c0 : Nat) (l0 : List (S33)) (r : ByteArray) (w : World) (hr0 : Kd.C k33 w A0 l0.length l0) (hc0 : l0.length ≤ c0) (h : frisketlaw11_content.f k l0 = some r) :
  Calls Try.prog 20 #[.slice A0 l0.length c0] w fun e w' => e = .returned (.string r) ∧ Drawn0 w w' := by
 have HR0 := Aside0.mk hr0
 have HC0 := Aside0.mk hc0
 clear hr0 hc0
 have H : (frisketlaw11_content.l0 k l0 (⟨#[]⟩ : ByteArray) 0) = some r := h
 clear h
 have H' := Aside0.mk H
 clear H
 go_enter Try.func20, Try.ntmps20
 go_wp2
 go_loopg [3, 4] k (fun kq v3 v4 w' => ∃ (x3_1 : ByteArray) (x4_1 : Int), v3 = .string x3_1 ∧ v4 = .int .i64 x4_1 ∧ Aside0 (frisketlaw11_content.l0 kq l0 x3_1 x4_1 = some r) ∧ Aside0 (kq ≤ k) ∧ Drawn0 w w')
 case atStart => exact ⟨((⟨#[]⟩ : ByteArray)), (0), (by first | rfl | (simp; done) | (simp [*]; done)), (by first | rfl | (simp; done) | (simp [*]; done)), H', ⟨Nat.le_refl _⟩, by repeat (first | exact Drawn0.refl _ | apply Drawn0.step)⟩
 case round =>
  clear H'
  obtain ⟨x3_1, x4_1, rfl, rfl, HA, HK1, ⟨m1, rfl⟩⟩ := hrel
  cases gk with
  | zero => exact absurd HA.out (by simp [frisketlaw11_content.l0])
  | succ k1 =>
   have H := HA.out
   clear HA
   simp only [frisketlaw11_content.l0] at H
   by_cases c2 : x4_1 < (l0.length : Int)
   ·rw [if_pos c2] at H
    have c2b0 : decide (x4_1 < (l0.length : Int)) = true := decide_eq_true c2
    clear c2
    by_cases c3 : 0 ≤ x4_1
    ·rw [if_pos c3] at H
     have c3b0 : decide (0 ≤ x4_1) = true := decide_eq_true c3
     clear c3
     by_cases c4 : ((rd_T33 l0 x4_1).f0) = 0
     ·rw [if_pos c4] at H
      have c4b0 : (((rd_T33 l0 x4_1).f0) == 0) = true := beq_iff_eq.mpr c4
      have c4b1 : (((rd_T33 l0 x4_1).f0) != 0) = false := bne_eq_false_iff_eq.mpr c4
      clear c4
      by_cases c5 : x3_1.size + ((rd_T33 l0 x4_1).f4).size ≤ 9223372036854775807
      ·rw [if_pos c5] at H
       have c5b0 := eq_true c5
       have c5b1 : decide (x3_1.size + ((rd_T33 l0 x4_1).f4).size ≤ 9223372036854775807) = true := decide_eq_true c5
       try have c5b2 : (9223372036854775807 < x3_1.size + ((rd_T33 l0 x4_1).f4).size) = False := eq_false (Nat.not_lt.2 c5)
       have H' := Aside0.mk H
       clear H
       have p330 : 0 ≤ (x4_1 : Int) := of_decide_eq_true (by first | (with_reducible assumption) | assumption)
       have q330 : x4_1 < (l0.length : Int) := of_decide_eq_true (by first | (with_reducible assumption) | assumption)
       obtain ⟨ad330, A330_6, c330_6, e330, hx330_0, hx330_1, hx330_2, hx330_3, hx330_4, hx330_5, hx330_6, hl330_6, hi330_6⟩ := at_T33 HR0.out x4_1 p330 q330
       cases e330
       have HR330_6 := Aside0.mk hi330_6
       have HC330_6 := Aside0.mk hl330_6
       clear hi330_6 hl330_6
       replace p330 := eq_true p330
       replace q330 := eq_true q330
       have p331 : 0 ≤ (x4_1 : Int) := of_decide_eq_true (by first | (with_reducible assumption) | assumption)
       have q331 : x4_1 < (l0.length : Int) := of_decide_eq_true (by first | (with_reducible assumption) | assumption)
       obtain ⟨ad331, A331_6, c331_6, e331, hx331_0, hx331_1, hx331_2, hx331_3, hx331_4, hx331_5, hx331_6, hl331_6, hi331_6⟩ := at_T33 HR0.out x4_1 p331 q331
       obtain rfl : ad330 = ad331 := (by injection e331)
       have HR331_6 := Aside0.mk hi331_6
       have HC331_6 := Aside0.mk hl331_6
       clear hi331_6 hl331_6
       replace p331 := eq_true p331
       replace q331 := eq_true q331
       have ea_ := Option.some.inj (hx330_6.symm.trans hx331_6)
       injection ea_ with ea_ en_ ec_
       subst ea_
       subst ec_
       clear en_
       go_wp2
       go_roundg k1
       case measure => have := HK1.out; omega
       case rel => exact ⟨(x3_1 ++ ((rd_T33 l0 x4_1).f4)), (wrap64 (x4_1 + 1)), (by first | rfl | (simp; done) | (simp [*]; done)), (by first | rfl | (simp; done) | (simp [*]; done)), H', ⟨by have := HK1.out; omega⟩, by repeat (first | exact Drawn0.refl _ | apply Drawn0.step)⟩
      ·rw [if_neg c5] at H
       exact absurd H (by simp)
     ·rw [if_neg c4] at H
      have c4b0 : (((rd_T33 l0 x4_1).f0) == 0) = false := beq_eq_false_iff_ne.mpr c4
      have c4b1 : (((rd_T33 l0 x4_1).f0) != 0) = true := bne_iff_ne.mpr c4
      have H' := Aside0.mk H
      clear H
      have p330 : 0 ≤ (x4_1 : Int) := of_decide_eq_true (by first | (with_reducible assumption) | assumption)
      have q330 : x4_1 < (l0.length : Int) := of_decide_eq_true (by first | (with_reducible assumption) | assumption)
      obtain ⟨ad330, A330_6, c330_6, e330, hx330_0, hx330_1, hx330_2, hx330_3, hx330_4, hx330_5, hx330_6, hl330_6, hi330_6⟩ := at_T33 HR0.out x4_1 p330 q330
      cases e330
      have HR330_6 := Aside0.mk hi330_6
      have HC330_6 := Aside0.mk hl330_6
      clear hi330_6 hl330_6
      replace p330 := eq_true p330
      replace q330 := eq_true q330
      go_wp2
      go_roundg k1
      case measure => have := HK1.out; omega
      case rel => exact ⟨(x3_1), (wrap64 (x4_1 + 1)), (by first | rfl | (simp; done) | (simp [*]; done)), (by first | rfl | (simp; done) | (simp [*]; done)), H', ⟨by have := HK1.out; omega⟩, by repeat (first | exact Drawn0.refl _ | apply Drawn0.step)⟩
    ·rw [if_neg c3] at H
     exact absurd H (by simp)
   ·rw [if_neg c2] at H
    have c2b0 : decide (x4_1 < (l0.length : Int)) = false := decide_eq_false c2
    clear c2
    obtain rfl := Option.some.inj H
    go_wp2
    go_ret
    exact ⟨by first | rfl | (simp; done) | (simp [*]; done), by repeat (first | exact Drawn0.refl _ | apply Drawn0.step)⟩
end Go.Proofs.Yteadghhmoggjnaa.Q
end
section
/- Plain law: nothing of a row is lost, nothing comes twice, when its lines are broken. -/
set_option linter.unusedVariables false
set_option linter.unusedSimpArgs false
namespace Go.Proofs.YteadghhmoggjnaaB
open Go.RowKit
open Go.Proofs.Yteadghhmoggjnaa.Q
open Go.Proofs.YteadghhmoggjnaaW.PrintWords Go.Proofs.YteadghhmoggjnaaW.PrintLast
set_option maxHeartbeats 1600000
/-- The names of glyphs. -/
def contL (l : List S33) : List UInt8 := l.flatMap (fun x => if x.f0 = 0 then x.f4.data.toList else [])
theorem contL_app (a b : List S33) : contL (a ++ b) = contL a ++ contL b := List.flatMap_append
theorem contL_cons (x : S33) (l : List S33) : contL (x :: l) = (if x.f0 = 0 then x.f4.data.toList else []) ++ contL l := List.flatMap_cons
def bytesOf (l : List UInt8) : ByteArray := ⟨l.toArray⟩
theorem bytes_app (l : List UInt8) (s : ByteArray) : bytesOf l ++ s = bytesOf (l ++ s.data.toList) := by
 show ByteArray.append (bytesOf l) s = _
 have h : (bytesOf l ++ s).data = (bytesOf (l ++ s.data.toList)).data := by
  rw [ByteArray.data_append]
  unfold bytesOf
  simp
 have e : ∀ a b : ByteArray, a.data = b.data → a = b := fun a b h => by cases a; cases b; cases h; rfl
 exact e _ _ h
theorem bytes_size (l : List UInt8) : (bytesOf l).size = l.length := by
 show (bytesOf l).data.size = _
 unfold bytesOf
 simp
theorem cont_le : ∀ (l : List S33), (∀ x ∈ l, x.f4.size ≤ 10) → (contL l).length ≤ 10 * l.length
 | [], _ => Nat.zero_le _
 | x :: r, h => by
  have ih := cont_le r (fun y hy => h y (List.mem_cons_of_mem _ hy))
  have hx := h x List.mem_cons_self
  rw [contL_cons, List.length_append, List.length_cons]
  have : (if x.f0 = 0 then x.f4.data.toList else []).length ≤ 10 := by
   split
   ·show x.f4.data.toList.length ≤ 10
    have e : x.f4.data.toList.length = x.f4.size := by simp
    omega
   ·exact Nat.zero_le _
  omega
theorem content_l (l : List S33) (hl : l.length ≤ 100000) (h4 : ∀ x ∈ l, x.f4.size ≤ 10) : ∀ (d i : Nat), i + d = l.length → Ev (fun k => frisketlaw11_content.l0 k l (bytesOf (contL (l.take i))) (i : Int)) (bytesOf (contL l))
 | 0, i, h => by
  refine Ev.step (fun k => by rw [frisketlaw11_content.l0]) (ev_neg (by omega) (ev_now ?_))
  rw [List.take_of_length_le (by omega)]
 | d + 1, i, h => by
  have hlt : i < l.length := by omega
  have hx : l[i]? = some l[i] := List.getElem?_eq_getElem hlt
  have ih := content_l l hl h4 d (i + 1) (by omega)
  have hc := cont_le (l.take i) (fun x hx => h4 x (List.mem_of_mem_take hx))
  have hlen : (l.take i).length ≤ 100000 := by rw [List.length_take]; omega
  have h4x := h4 l[i] (List.getElem_mem hlt)
  have htk : l.take (i + 1) = l.take i ++ [l[i]] := List.take_succ_eq_append_getElem hlt
  rw [htk, contL_app, contL_cons] at ih
  refine Ev.step (fun k => by rw [frisketlaw11_content.l0]) (ev_pos (by omega) (ev_pos (by omega) ?_))
  rw [rdT_at hx, w64_succ (by omega)]
  by_cases h0 : l[i].f0 = 0
  ·rw [if_pos h0] at ih
   refine ev_pos h0 (ev_pos (by rw [bytes_size]; omega) ?_)
   rw [bytes_app]
   have e : contL ([] : List S33) = [] := rfl
   rw [e, List.append_nil] at ih
   exact ih
  ·rw [if_neg h0] at ih
   have e : contL ([] : List S33) = [] := rfl
   rw [e, List.nil_append, List.append_nil] at ih
   exact ev_neg h0 ih
theorem content_f (l : List S33) (hl : l.length ≤ 100000) (h4 : ∀ x ∈ l, x.f4.size ≤ 10) : Ev (fun k => frisketlaw11_content.f k l) (bytesOf (contL l)) := content_l l hl h4 l.length 0 (by omega)
/-! ### what a line keeps -/
def hyB : S33 := ⟨0, 4, 0, 10, ⟨#[104, 121]⟩, ⟨#[]⟩, []⟩
def isHy (x : S33) : Bool := x.f4.toList == [104, 121]
/-- A line without the hyphen behind it. -/
def coreL (l : List S33) : List S33 := match l.getLast? with
 | some x => if isHy x = true then l.take (l.length - 1) else l
 | none => l
def endsHy (l : List S33) : Bool := match l.getLast? with
 | some x => isHy x
 | none => false
theorem core_hy (l : List S33) : coreL (l ++ [hyB]) = l ∧ endsHy (l ++ [hyB]) = true := by
 have hh : isHy hyB = true := by kernel_rfl
 have hl : (l ++ [hyB]).getLast? = some hyB := by rw [List.getLast?_append]; rfl
 unfold coreL endsHy
 rw [hl]
 refine ⟨?_, hh⟩
 show (if isHy hyB = true then _ else _) = _
 rw [if_pos hh, List.length_append, List.length_singleton, Nat.add_sub_cancel, List.take_left]
theorem core_no {l : List S33} (h : ∀ x ∈ l, isHy x = false) : coreL l = l ∧ endsHy l = false := by
 unfold coreL endsHy
 cases hl : l.getLast? with
 | none => exact ⟨rfl, rfl⟩
 | some x =>
  have hx := h x (List.mem_of_getLast? hl)
  refine ⟨?_, hx⟩
  show (if isHy x = true then _ else _) = _
  rw [if_neg (by rw [hx]; decide)]
theorem cont_rest : ∀ l : List S33, contL (restL l) = contL l
 | [] => rfl
 | x :: r => by
  rw [restL_cons]
  split
  ·rename_i hb
   have h1 : x.f0 = 1 := by
    unfold blankB at hb
    rw [Bool.and_eq_true] at hb
    exact of_decide_eq_true (by simpa using hb.1)
   rw [cont_rest r, contL_cons, if_neg (by omega), List.nil_append]
  ·rfl
theorem cont_split (l : List S33) (k : Nat) : contL (l.take k) ++ contL (l.drop k) = contL l := by rw [← contL_app, List.take_append_drop]
/-- What a line and the rest keep of a row. -/
def Keeps (R : List S33) (r : List S33 × List S33 × Bool) : Prop := contL (coreL r.1) ++ contL r.2.1 = contL R ∧ (endsHy r.1 = true → 0 < (restL r.2.1).length)
section
variable (R : List S33) (hno : ∀ x ∈ R, isHy x = false) (len : Int)
include hno in
theorem keeps_at (i : Nat) (hi : i < R.length) (hbR : begA R i ≠ R.length) : Keeps R (ansAt R len hyB i) := by
 have hle := begA_le (row := R) (Nat.le_of_lt hi)
 have hs := stopA_le (row := R) (Nat.le_of_lt hi)
 have hs2 := stopA_gt hi hbR
 have hyl : ((R.drop (begA R i)).take (stopA R i - begA R i)).length = stopA R i - begA R i := by rw [List.length_take, List.length_drop]; omega
 have hword : ∀ j, begA R i ≤ j → (hj : j < stopA R i) → ∀ x, R[j]? = some x → blankB x = false := fun j h1 h2 x hx => by
  have hfi : stopA R i = begA R i + (R.drop (begA R i)).findIdx blankB := rfl
  have h4 := List.not_of_lt_findIdx (p := blankB) (xs := R.drop (begA R i)) (i := j - begA R i) (by omega)
  rw [List.getElem_drop] at h4
  obtain ⟨hjl, rfl⟩ := List.getElem?_eq_some_iff.1 hx
  simp only [show begA R i + (j - begA R i) = j by omega] at h4
  simpa using h4
 have hcut : ∀ p, p ∈ allA R i → Keeps R (ansCut R hyB i p) := fun p hp => by
  obtain ⟨q, rfl, hq⟩ := placesL_mem hp
  have hql := brk_lt hq
  rw [hyl] at hql
  have hline : cutL R hyB i (q : Int) = R.take (begA R i + q) ++ [hyB] := by
   unfold cutL hyph
   rw [if_neg (by decide), Int.toNat_natCast]
  obtain ⟨c1, c2⟩ := core_hy (R.take (begA R i + q))
  have hx : R[begA R i + q]? = some (R[begA R i + q]'(by omega)) := List.getElem?_eq_getElem (by omega)
  have hpt : (R[begA R i + q]'(by omega)).f0 = 5 := by
   have hy : ((R.drop (begA R i)).take (stopA R i - begA R i))[q]? = some (R[begA R i + q]'(by omega)) := by rw [List.getElem?_take, if_pos (by omega), List.getElem?_drop, hx]
   rw [brk_at hy, Bool.and_eq_true] at hq
   simpa using hq.1
  refine ⟨?_, fun _ => ?_⟩
  ·show contL (coreL (cutL R hyB i (q : Int))) ++ contL (restL (R.drop (begA R i + (q : Int).toNat + 1))) = contL R
   rw [hline, c1, Int.toNat_natCast, cont_rest]
   have h1 := cont_split R (begA R i + q)
   rw [List.drop_eq_getElem_cons (by omega), contL_cons, if_neg (by omega), List.nil_append] at h1
   exact h1
  ·show 0 < (restL (restL (R.drop (begA R i + (q : Int).toNat + 1)))).length
   rw [Int.toNat_natCast]
   have hr : restL (R.drop (begA R i + q + 1)) = R.drop (begA R i + q + 1) := restL_solid (fun x hx => by
    rw [List.getElem?_drop] at hx
    exact hword (begA R i + q + 1 + 0) (by omega) (by omega) x hx)
   rw [hr, hr, List.length_drop]
   omega
 have htk : ∀ k, (∀ x ∈ R.take k, isHy x = false) := fun k x hx => hno x (List.mem_of_mem_take hx)
 unfold ansAt
 cases hfd : (allA R i).reverse.find? (fitsL R len hyB i) with
 | some p => exact hcut p (List.mem_reverse.1 (List.mem_of_find?_eq_some hfd))
 | none =>
  show Keeps R (if 0 < i then _ else _)
  by_cases h0 : 0 < i
  ·rw [if_pos h0]
   obtain ⟨c1, c2⟩ := core_no (htk i)
   refine ⟨?_, fun he => ?_⟩
   ·show contL (coreL (R.take i)) ++ contL (restL (R.drop i)) = contL R
    rw [c1, cont_rest, cont_split]
   ·have : endsHy (R.take i) = true := he
    rw [c2] at this
    cases this
  ·rw [if_neg h0]
   cases hp : (allA R i)[0]? with
   | some p => exact hcut p (List.mem_of_getElem? hp)
   | none =>
    obtain ⟨c1, c2⟩ := core_no (htk (stopA R i))
    refine ⟨?_, fun he => ?_⟩
    ·show contL (coreL (R.take (stopA R i))) ++ contL (restL (R.drop (stopA R i))) = contL R
     rw [c1, cont_rest, cont_split]
    ·have : endsHy (R.take (stopA R i)) = true := he
     rw [c2] at this
     cases this
include hno in
theorem keeps_go : ∀ f i, Keeps R (takeGo R len hyB f i) := by
 have hall : ∀ b : Bool, Keeps R (R, [], b) := fun b => by
  obtain ⟨c1, c2⟩ := core_no hno
  refine ⟨?_, fun he => ?_⟩
  ·show contL (coreL R) ++ contL [] = contL R
   rw [c1]
   exact List.append_nil _
  ·have : endsHy R = true := he
   rw [c2] at this
   cases this
 intro f
 induction f with
 | zero => exact fun i => hall false
 | succ f ih =>
  intro i
  unfold takeGo
  split
  ·rename_i hi
   split
   ·exact hall false
   ·rename_i hb
    split
    ·exact ih _
    ·exact keeps_at R hno len i hi hb
  ·exact hall false
end
theorem keeps_take (l : List S33) (hno : ∀ x ∈ l, isHy x = false) (len : Int) : Keeps l (takeL l len hyB) := by
 obtain ⟨h1, h2⟩ := keeps_go (restL l) (fun x hx => hno x (restL_mem hx)) len ((restL l).length + 1) 0
 exact ⟨by rw [← cont_rest l]; exact h1, h2⟩
/-- All lines, one behind the other. -/
theorem keeps_lines : ∀ (f : Nat) (l : List S33) (a1 a2 : Int), l.length < f → (∀ x ∈ l, isHy x = false) → (breakGo f l a1 a2 hyB).flatMap (fun y => contL (coreL y)) = contL l ∧ ∀ i y, (breakGo f l a1 a2 hyB)[i]? = some y → endsHy y = true → i + 1 < (breakGo f l a1 a2 hyB).length
 | 0, l, a1, a2, h, _ => by omega
 | f + 1, l, a1, a2, h, hno => by
  unfold breakGo
  by_cases hr : 0 < (restL l).length
  ·rw [if_pos hr]
   have hlt := takeL_lt' l a1 hyB hr
   obtain ⟨-, -, -, p4⟩ := parts_take l a1 hyB
   obtain ⟨k1, k2⟩ := keeps_take l hno a1
   obtain ⟨ih1, ih2⟩ := keeps_lines f (takeL l a1 hyB).2.1 a2 a2 (by omega) (fun x hx => hno x (p4 x hx))
   refine ⟨by rw [List.flatMap_cons, ih1]; exact k1, fun i y hy he => ?_⟩
   cases i with
   | zero =>
    have e : (takeL l a1 hyB).1 = y := by simpa using hy
    subst e
    have h2 := k2 he
    rw [List.length_cons]
    obtain ⟨f, rfl⟩ : ∃ k, f = k + 1 := ⟨f - 1, by omega⟩
    unfold breakGo
    rw [if_pos h2, List.length_cons]
    omega
   | succ i =>
    have := ih2 i y (by simpa using hy) he
    rw [List.length_cons]
    omega
  ·rw [if_neg hr]
   have hz : restL l = [] := List.eq_nil_of_length_eq_zero (by omega)
   refine ⟨?_, fun i y hy => by simp at hy⟩
   rw [← cont_rest l, hz]
   rfl
end Go.Proofs.YteadghhmoggjnaaB
end
