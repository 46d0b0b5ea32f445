import Derived.Test.YteadghhmoggjnaaFM6
set_option linter.unusedVariables false
set_option linter.unusedSimpArgs false
section
section
namespace Go.Proofs.YteadghhmoggjnaaB
open Go.RowKit
open Yteadghhmoggjnaa.Q (S33 k33 z33 k33_open k33_mk k33_mkM k33_openF)
open YteadghhmoggjnaaW.PrintWords (Kd ReadsRow)
set_option maxHeartbeats 1600000
set_option maxRecDepth 1000000
theorem Valid_any (x : S33) (A : Option Addr) (c : Nat) (w : World) (hr : Kind.int.Rd w (fun _ => True) A x.f6.length x.f6) (hn : x.f6.length ≤ 9223372036854775807) :
    Calls Try.prog 55 #[.agg (S33cells x A c).toArray] w fun e w' => e = .returned (.bool (validB x)) ∧ Below w.heap.size w w' := by
  obtain ⟨kd, wd, ft, sz, nm, co, ns⟩ := x
  have hx0 : validB ⟨kd, wd, ft, sz, nm, co, ns⟩ = (
  !(decide (wd < -1000000) || decide (1000000 < wd) || decide (ft < 0) || decide (sz < 0) || !(colourB co)) &&
  (if kd = 0 then namedB nm && (ns.length == 0)
   else if kd = 1 then ((nm.toList == []) || (nm.toList == [126])) && (co.toList == []) && (ns.length == 0)
   else if kd = 4 then (ft == 0) && (sz == 0) && (nm.size == 1) && strokeB nm && decide (ns.length ≤ 40) && allI farV ns
   else if kd = 5 then ((ft == 0) && (sz == 0) && (co.toList == []) && (ns.length == 0)) && (nm.toList == []) && (wd == 0)
   else if kd = 2 ∨ kd = 3 ∨ kd = 6 then ((ft == 0) && (sz == 0) && (co.toList == []) && (ns.length == 0)) && (nm.toList == [])
   else false)) := rfl
  have hr' : Kind.int.Rd w (fun _ => True) A ns.length ns := hr
  have hn' : ns.length ≤ 9223372036854775807 := hn
  clear hr hn
  have hl0 : ((ns.length : Int) == 0) = (ns.length == 0) := by rw [Bool.eq_iff_iff]; simp
  have hl1 : ((nm.size : Int) == 1) = (nm.size == 1) := by rw [Bool.eq_iff_iff]; simp; omega
  have hl4 : decide ((ns.length : Int) ≤ 40) = decide (ns.length ≤ 40) := by rw [Bool.eq_iff_iff]; simp; omega
  by_cases e1 : wd < -1000000
  · exact (Valid_far0 kd wd ft sz nm co ns A c w hr' hn' e1 _ rfl).mono fun e w' ⟨h1, h2⟩ => ⟨by rw [h1, hx0]; simp [e1], h2⟩
  by_cases e2 : 1000000 < wd
  · exact (Valid_far1 kd wd ft sz nm co ns A c w hr' hn' e2 _ rfl).mono fun e w' ⟨h1, h2⟩ => ⟨by rw [h1, hx0]; simp [e2], h2⟩
  by_cases e3 : ft < 0
  · exact (Valid_far2 kd wd ft sz nm co ns A c w hr' hn' e3 _ rfl).mono fun e w' ⟨h1, h2⟩ => ⟨by rw [h1, hx0]; simp [e3], h2⟩
  by_cases e4 : sz < 0
  · exact (Valid_far3 kd wd ft sz nm co ns A c w hr' hn' e4 _ rfl).mono fun e w' ⟨h1, h2⟩ => ⟨by rw [h1, hx0]; simp [e4], h2⟩
  have g1 : -1000000 ≤ wd := by omega
  have g2 : wd ≤ 1000000 := by omega
  have g3 : 0 ≤ ft := by omega
  have g4 : 0 ≤ sz := by omega
  cases hc : colourB co with
  | false => exact (Valid_grey kd wd ft sz nm co ns A c w hr' hn' g1 g2 g3 g4 hc).mono fun e w' ⟨h1, h2⟩ => ⟨by rw [h1, hx0]; simp [hc], h2⟩
  | true =>
    have hx1 : validB ⟨kd, wd, ft, sz, nm, co, ns⟩ = (if kd = 0 then namedB nm && (ns.length == 0)
       else if kd = 1 then ((nm.toList == []) || (nm.toList == [126])) && (co.toList == []) && (ns.length == 0)
       else if kd = 4 then (ft == 0) && (sz == 0) && (nm.size == 1) && strokeB nm && decide (ns.length ≤ 40) && allI farV ns
       else if kd = 5 then ((ft == 0) && (sz == 0) && (co.toList == []) && (ns.length == 0)) && (nm.toList == []) && (wd == 0)
       else if kd = 2 ∨ kd = 3 ∨ kd = 6 then ((ft == 0) && (sz == 0) && (co.toList == []) && (ns.length == 0)) && (nm.toList == [])
       else false) := by
      rw [hx0, hc, decide_eq_false e1, decide_eq_false e2, decide_eq_false e3, decide_eq_false e4]
      rfl
    clear hx0 e1 e2 e3 e4
    by_cases k0 : kd = 0
    · subst k0
      exact (Valid_0 wd ft sz nm co ns A c w hr' hn' g1 g2 g3 g4 hc).mono fun e w' ⟨h1, h2⟩ => ⟨by rw [h1, hx1, if_pos rfl, hl0], h2⟩
    by_cases k1 : kd = 1
    · subst k1
      exact (Valid_1 wd ft sz nm co ns A c w hr' hn' g1 g2 g3 g4 hc).mono fun e w' ⟨h1, h2⟩ => ⟨by rw [h1, hx1, if_neg (by omega), if_pos rfl, hl0], h2⟩
    by_cases k4 : kd = 4
    · subst k4
      exact (Valid_4 wd ft sz nm co ns A c w hr' hn' g1 g2 g3 g4 hc).mono fun e w' ⟨h1, h2⟩ => ⟨by rw [h1, hx1, if_neg (by omega), if_neg (by omega), if_pos rfl, hl1, hl4], h2⟩
    by_cases k5 : kd = 5
    · subst k5
      exact (Valid_5 wd ft sz nm co ns A c w hr' hn' g1 g2 g3 g4 hc).mono fun e w' ⟨h1, h2⟩ => ⟨by rw [h1, hx1, if_neg (by omega), if_neg (by omega), if_neg (by omega), if_pos rfl, hl0], h2⟩
    by_cases k2 : kd = 2
    · subst k2
      exact (Valid_2 wd ft sz nm co ns A c w hr' hn' g1 g2 g3 g4 hc).mono fun e w' ⟨h1, h2⟩ => ⟨by rw [h1, hx1, if_neg (by omega), if_neg (by omega), if_neg (by omega), if_neg (by omega), if_pos (by omega), hl0], h2⟩
    by_cases k3 : kd = 3
    · subst k3
      exact (Valid_3 wd ft sz nm co ns A c w hr' hn' g1 g2 g3 g4 hc).mono fun e w' ⟨h1, h2⟩ => ⟨by rw [h1, hx1, if_neg (by omega), if_neg (by omega), if_neg (by omega), if_neg (by omega), if_pos (by omega), hl0], h2⟩
    by_cases k6 : kd = 6
    · subst k6
      exact (Valid_6 wd ft sz nm co ns A c w hr' hn' g1 g2 g3 g4 hc).mono fun e w' ⟨h1, h2⟩ => ⟨by rw [h1, hx1, if_neg (by omega), if_neg (by omega), if_neg (by omega), if_neg (by omega), if_pos (by omega), hl0], h2⟩
    exact (Valid_no kd wd ft sz nm co ns A c w hr' hn' g1 g2 g3 g4 hc k0 k1 k2 k3 k4 k5 k6).mono fun e w' ⟨h1, h2⟩ => ⟨by rw [h1, hx1, if_neg k0, if_neg k1, if_neg k4, if_neg k5, if_neg (by omega)], h2⟩
theorem lens_of_C {w : World} {A : Option Addr} {n : Nat} {l : List S33} (h : k33.C w A n l) : ∀ x ∈ l, x.f6.length ≤ 9223372036854775807 := by
 intro x hx
 obtain ⟨i, hi, rfl⟩ := List.mem_iff_getElem.1 hx
 obtain ⟨ad, -, hc⟩ := h.2.2 (by have := h.1; omega)
 obtain ⟨c, hs, hr, -⟩ := hc i _ (List.getElem?_eq_getElem hi)
 obtain ⟨A6, c6, -, -, g6⟩ := k33_open hr
 exact g6.2.1
theorem box_cells {w : World} {ok : Nat → Prop} {A : Option Addr} {n i : Nat} {l : List S33} {x : S33} (h : boxK.Rd w ok A n l) (hx : l[i]? = some x) :
  ∃ b off A5 c5, A = some ⟨b, off, none⟩ ∧ Kind.int.Rd w ok A5 x.f6.length x.f6 ∧ x.f6.length ≤ c5 ∧ ok b ∧ w.cell? ⟨b, off + i * 7, none⟩ = some (.int .i64 x.f0) ∧ w.cell? ⟨b, off + i * 7 + 1, none⟩ = some (.int .i64 x.f1) ∧ w.cell? ⟨b, off + i * 7 + 2, none⟩ = some (.int .i64 x.f2) ∧
   w.cell? ⟨b, off + i * 7 + 3, none⟩ = some (.int .i64 x.f3) ∧ w.cell? ⟨b, off + i * 7 + 4, none⟩ = some (.string x.f4) ∧ w.cell? ⟨b, off + i * 7 + 5, none⟩ = some (.string x.f5) ∧ w.cell? ⟨b, off + i * 7 + 6, none⟩ = some (.slice A5 x.f6.length c5) := by
 obtain ⟨hi, rfl⟩ := List.getElem?_eq_some_iff.1 hx
 obtain ⟨b', off', e', hok, -, -⟩ := h.2 (by have := h.1; omega)
 obtain ⟨b, off, cs, e, hb, ⟨A5, c5, rfl, hl, hr⟩, hc⟩ := h.at_ hi
 rw [e] at e'
 cases e'
 exact ⟨_, _, A5, c5, e, hr, hl, hok, hc 0 _ rfl, hc 1 _ rfl, hc 2 _ rfl, hc 3 _ rfl, hc 4 _ rfl, hc 5 _ rfl, hc 6 _ rfl⟩
def noneB (p : S33 → Bool) (l : List S33) : Bool := l.all fun x => !(p x)
def idxI (p : S33 → Bool) (l : List S33) : Int := if l.findIdx p < l.length then (l.findIdx p : Int) else -1
theorem idxI_hit {p : S33 → Bool} {l : List S33} {k : Nat} {x : S33} (h : noneB p (l.take k) = true) (hx : l[k]? = some x) (hp : p x = true) : idxI p l = (k : Int) := by
 obtain ⟨hk, rfl⟩ := List.getElem?_eq_some_iff.1 hx
 have h1 : l.findIdx p = k := by
  rw [List.findIdx_eq hk]
  refine ⟨hp, fun j hj => ?_⟩
  have := List.all_eq_true.1 h l[j] (by rw [List.mem_take_iff_getElem]; exact ⟨j, by omega, rfl⟩)
  simpa using this
 unfold idxI
 rw [h1, if_pos hk]
theorem idxI_none {p : S33 → Bool} {l : List S33} (h : noneB p l = true) : idxI p l = -1 := by
 unfold idxI
 rw [if_neg]
 rw [List.findIdx_lt_length]
 rintro ⟨x, hx, hp⟩
 have := List.all_eq_true.1 h x hx
 rw [hp] at this
 cases this
theorem idxI_ge (p : S33 → Bool) (l : List S33) : decide (0 ≤ idxI p l) = !(noneB p l) := by
 cases h : noneB p l with
 | true => rw [idxI_none h]; rfl
 | false =>
  unfold noneB at h
  rw [List.all_eq_false] at h
  obtain ⟨x, hx, hp⟩ := h
  have : l.findIdx p < l.length := List.findIdx_lt_length.2 ⟨x, hx, by simpa using hp⟩
  unfold idxI
  rw [if_pos this]
  simp
theorem take_none (p : S33 → Bool) (l : List S33) (k : Nat) {x : S33} (h : l[k]? = some x) : noneB p (l.take (k + 1)) = (noneB p (l.take k) && !(p x)) := by
 obtain ⟨hk, rfl⟩ := List.getElem?_eq_some_iff.1 h
 unfold noneB
 rw [List.take_succ_eq_append_getElem hk, List.all_append]
 simp
def Tests (p : S33 → Bool) (gf : Nat) : Prop := ∀ (x : S33) (A : Option Addr) (c : Nat) (W : World), Kind.int.Rd W (fun _ => True) A x.f6.length x.f6 → x.f6.length ≤ 9223372036854775807 → Calls Try.prog gf #[.agg (S33cells x A c).toArray] W fun e W' => e = .returned (.bool (p x)) ∧ Below W.heap.size W W'
section
variable (p : S33 → Bool) (gf : Nat) (eg : ∀ args w, (callFunc gf args).run Try.prog w = .ok (.enter gf args) w) (hp : Tests p gf)
include eg hp
theorem IndexFunc_box (A : Option Addr) (n c : Nat) (l : List S33) (ok : Nat → Prop) (w : World) (hr : boxK.Rd w ok A n l) (hn : n ≤ 9223372036854775807) (hlen : ∀ x ∈ l, x.f6.length ≤ 9223372036854775807) :
  Calls Try.prog 71 #[.slice A n c, .func (.func gf) #[] #[]] w fun e w' => e = .returned (.int .i64 (idxI p l)) ∧ Below w.heap.size w w' := by
 have HR := hide hr
 have hln : l.length = n := hr.1
 have HLN := hide hln
 have HP := hide hp
 have HLEN := hide hlen
 clear hr hln hp hlen
 go_enter Try.func71, Try.ntmps71
 go_wp2_with fail
 go_loopw [5, 8] (fun _ t8 wr => ∃ k : Nat, t8 = .int .i64 k ∧ k ≤ n ∧ Hid (noneB p (l.take k) = true) ∧ Hid (Below w.heap.size w wr)) (fun _ t8 _ => n - (intOf t8).toNat)
 case atStart => exact ⟨0, rfl, Nat.zero_le _, hide rfl, hide (Below.refl _ _)⟩
 case round =>
  obtain ⟨k, rfl, hk, HG, HB⟩ := hrel
  by_cases hlt : k < n
  ·obtain ⟨x, hx⟩ : ∃ x, l[k]? = some x := ⟨_, List.getElem?_eq_getElem (by have := HLN.out; omega)⟩
   obtain ⟨b, off, A5, c5, rfl, hr5, -, -, z0, z1, z2, z3, z4, z5, z6⟩ := box_cells (HR.out.below HB.out) hx
   have HR5 := hide (hr5.weaken (ok' := fun _ => True) (fun _ _ => trivial))
   have HL5 := hide (HLEN.out x (List.mem_of_getElem? hx))
   have hts := take_none p l k hx
   rw [HG.out] at hts
   have HTS := hide hts
   have HX := hide hx
   clear hts hx hr5
   cases hb : p x with
   | true =>
    have HPB := hide hb
    clear hb
    go_wp2_with (go_at_fn gf; refine (HP.out x A5 c5 _ HR5.out HL5.out).mono ?_; rw [HPB.out]; rintro e w2 ⟨rfl, q⟩; have Q := hide q; clear q)
    go_ret
    exact ⟨ret_int (idxI_hit HG.out HX.out HPB.out).symm, below_self HB.out Q.out⟩
   | false =>
    have HPB := hide hb
    clear hb
    go_wp2_with (go_at_fn gf; refine (HP.out x A5 c5 _ HR5.out HL5.out).mono ?_; rw [HPB.out]; rintro e w2 ⟨rfl, q⟩; have Q := hide q; clear q)
    go_roundw
    case rel => exact ⟨k + 1, by go_num, by omega, hide (by rw [HTS.out, HPB.out]; rfl), hide (below_self HB.out Q.out)⟩
    case measure => simp [intOf]; omega
  ·have hg := HG.out
   rw [List.take_of_length_le (by have := HLN.out; omega)] at hg
   have HA := hide hg
   clear hg
   go_wp2_with fail
   go_ret
   exact ⟨ret_int (idxI_none HA.out).symm, HB.out⟩
theorem ContainsFunc_box (A : Option Addr) (n c : Nat) (l : List S33) (ok : Nat → Prop) (w : World) (hr : boxK.Rd w ok A n l) (hn : n ≤ 9223372036854775807) (hlen : ∀ x ∈ l, x.f6.length ≤ 9223372036854775807) :
  Calls Try.prog 53 #[.slice A n c, .func (.func gf) #[] #[]] w fun e w' => e = .returned (.bool !(noneB p l)) ∧ Below w.heap.size w w' := by
 have H := hide (IndexFunc_box p gf eg hp A n c l ok w hr hn hlen)
 have hi := idxI_ge p l
 obtain ⟨r, hre⟩ : ∃ r, r = idxI p l := ⟨_, rfl⟩
 rw [← hre] at H hi
 have HI := hide hi
 clear hr hp hlen hi hre
 go_enter Try.func53, Try.ntmps53
 go_wp2_with (go_at_call 71; refine (H.out).mono ?_; rintro e w' ⟨rfl, q⟩; have Q := hide q; clear q)
 go_ret
 exact ⟨ret_bool HI.out, Q.out⟩
end
theorem check1_tests : Tests (fun x => !(validB x)) 54 := fun x A c W hr hn => by
 have HB := hide (BoxAt.new W x A c)
 obtain ⟨kd, wd, ft, sz, nm, co, ns⟩ := x
 have HR := hide hr
 have HN := hide hn
 show Calls Try.prog 54 #[.agg #[.int .i64 kd, .int .i64 wd, .int .i64 ft, .int .i64 sz, .string nm, .string co, .slice A ns.length c]] W _
 clear hr hn
 go_enter Try.func54, Try.ntmps54
 go_wp2_with (go_at_call 55; refine (Valid_any ⟨kd, wd, ft, sz, nm, co, ns⟩ A c _ (HR.out.below HB.out.bel) HN.out).mono ?_; rintro e w2 ⟨rfl, q⟩; have Q := hide q; clear q)
 go_ret
 exact ⟨rfl, below_self HB.out.bel Q.out⟩
def blankB (x : S33) : Bool := (x.f0 == 1) && (x.f4.toList != [126])
theorem blank_tests : Tests blankB 66 := fun x A c W hr hn => by
 obtain ⟨kd, wd, ft, sz, nm, co, ns⟩ := x
 show Calls Try.prog 66 #[.agg #[.int .i64 kd, .int .i64 wd, .int .i64 ft, .int .i64 sz, .string nm, .string co, .slice A ns.length c]] W fun e W' => e = .returned (.bool ((kd == 1) && (nm.toList != [126]))) ∧ Below W.heap.size W W'
 clear hr hn
 go_enter Try.func66, Try.ntmps66
 go_wp2_with fail
 all_goals go_ret
 all_goals exact ⟨ret_bool (by first | (simp_all; done) | (simp_all [bne])), below_a _⟩
theorem next_any (A : Option Addr) (n c : Nat) (l : List S33) (ok : Nat → Prop) (w : World) (hr : boxK.Rd w ok A n l) (hn : n ≤ 9223372036854775807) (hlen : ∀ x ∈ l, x.f6.length ≤ 9223372036854775807) :
  Calls Try.prog 62 #[.slice A n c] w fun e w' => e = .returned (.int .i64 (l.findIdx blankB : Nat)) ∧ Below w.heap.size w w' := by
 have H := hide (IndexFunc_box blankB 66 (fun _ _ => rfl) blank_tests A n c l ok w hr hn hlen)
 have hln : l.length = n := hr.1
 by_cases hi : l.findIdx blankB < l.length
 ·have he : idxI blankB l = ((l.findIdx blankB : Nat) : Int) := by unfold idxI; rw [if_pos hi]
  rw [he] at H
  obtain ⟨r, hre⟩ : ∃ r, r = l.findIdx blankB := ⟨_, rfl⟩
  rw [← hre] at H ⊢
  clear hr hlen hln hi he hre
  go_enter Try.func62, Try.ntmps62
  go_wp2_with (go_at_call 71; refine (H.out).mono ?_; rintro e w' ⟨rfl, q⟩; have Q := hide q; clear q)
  go_ret
  exact ⟨rfl, Q.out⟩
 ·have he : idxI blankB l = -1 := by unfold idxI; rw [if_neg hi]
  have hl : l.findIdx blankB = n := by have := List.findIdx_le_length (xs := l) (p := blankB); omega
  rw [he] at H
  rw [hl]
  clear hr hlen hln hi he hl
  go_enter Try.func62, Try.ntmps62
  go_wp2_with (go_at_call 71; refine (H.out).mono ?_; rintro e w' ⟨rfl, q⟩; have Q := hide q; clear q)
  go_ret
  exact ⟨rfl, Q.out⟩
def checkI (l : List S33) (ns : List Int) : Int := if !(l.all validB) || !(allI farL ns) then 1 else if 5000 < l.length then 2 else 0
theorem none_valid (l : List S33) : noneB (fun x => !(validB x)) l = l.all validB := by unfold noneB; simp
theorem check_any (A : Option Addr) (n c : Nat) (l : List S33) (B : Option Addr) (m d : Nat) (ns : List Int) (ok : Nat → Prop) (w : World) (hr : boxK.Rd w ok A n l) (hn : n ≤ 9223372036854775807) (hlen : ∀ x ∈ l, x.f6.length ≤ 9223372036854775807) (hi : Kind.int.Rd w (fun _ => True) B m ns) (hm : m ≤ 9223372036854775807) :
    Calls Try.prog 26 #[.slice A n c, .slice B m d] w fun e w' => e = .returned (.int .i64 (checkI l ns)) ∧ Below w.heap.size w w' := by
  have H := hide (ContainsFunc_box (fun x => !(validB x)) 54 (fun _ _ => rfl) check1_tests A n c l ok w hr hn hlen)
  have HC : Hid (checkI l ns = if !(l.all validB) || !(allI farL ns) then 1 else if 5000 < l.length then 2 else 0) := hide rfl
  have hln : l.length = n := hr.1
  rw [none_valid] at H
  rw [hln] at HC
  have HI := hide hi
  clear hr hlen hln hi
  cases hv : l.all validB with
  | false =>
    rw [hv] at H HC
    go_enter Try.func26, Try.ntmps26
    go_wp2_with (go_at_call 53; refine (H.out).mono ?_; rintro e w1 ⟨rfl, q⟩; have Q := hide q; clear q)
    go_ret
    exact ⟨ret_int (by rw [HC.out]; rfl), Q.out⟩
  | true =>
    rw [hv] at H HC
    cases ha : allI farL ns with
    | false =>
      rw [ha] at HC
      have HA := hide ha
      clear ha
      go_enter Try.func26, Try.ntmps26
      go_wp2_with (first
        | (go_at_call 53; refine (H.out).mono ?_; rintro e w1 ⟨rfl, q⟩; have Q := hide q; clear q)
        | (go_at_call 56; refine (ContainsFunc_int farL 57 (fun _ _ => rfl) (fun c W => check2_any c W) B m d ns (fun _ => True) _ (HI.out.below Q.out) hm).mono ?_; rw [HA.out]; rintro e w2 ⟨rfl, rfl⟩))
      go_ret
      exact ⟨ret_int (by rw [HC.out]; rfl), Q.out⟩
    | true =>
      rw [ha] at HC
      have HA := hide ha
      clear ha
      by_cases h5 : 5000 < n
      · go_enter Try.func26, Try.ntmps26
        go_wp2_with (first
          | (go_at_call 53; refine (H.out).mono ?_; rintro e w1 ⟨rfl, q⟩; have Q := hide q; clear q)
          | (go_at_call 56; refine (ContainsFunc_int farL 57 (fun _ _ => rfl) (fun c W => check2_any c W) B m d ns (fun _ => True) _ (HI.out.below Q.out) hm).mono ?_; rw [HA.out]; rintro e w2 ⟨rfl, rfl⟩))
        go_ret
        exact ⟨ret_int (by rw [HC.out]; simp [h5]), Q.out⟩
      · go_enter Try.func26, Try.ntmps26
        go_wp2_with (first
          | (go_at_call 53; refine (H.out).mono ?_; rintro e w1 ⟨rfl, q⟩; have Q := hide q; clear q)
          | (go_at_call 56; refine (ContainsFunc_int farL 57 (fun _ _ => rfl) (fun c W => check2_any c W) B m d ns (fun _ => True) _ (HI.out.below Q.out) hm).mono ?_; rw [HA.out]; rintro e w2 ⟨rfl, rfl⟩))
        go_ret
        exact ⟨ret_int (by rw [HC.out]; simp [h5]), Q.out⟩
end Go.Proofs.YteadghhmoggjnaaB
end
section
namespace Go.Proofs.YteadghhmoggjnaaB
open Go.RowKit
open Yteadghhmoggjnaa.Q (S33 k33 z33 k33_open k33_mk k33_mkM k33_openF)
open YteadghhmoggjnaaW.PrintWords (Kd ReadsRow)
set_option maxHeartbeats 1600000
set_option maxRecDepth 1000000
def cutA (A : Option Addr) (c k : Nat) : Option Addr := if c = k then A else A.map (·.add (k * 7))
theorem sizeOf_box (W : World) : (sizeOf 33).run Try.prog W = .ok 7 W := by kernel_rfl
theorem elem_boxes : Try.prog.elem 23 = 33 := by kernel_rfl
theorem slice_low (W : World) (A : Option Addr) (n c k : Nat) (h1 : k ≤ n) : (Instr.slice 23 (.slice A n c) (some (.int .i64 (k : Int))) none none).run Try.prog W = .ok (.slice (cutA A c k) (n - k) (c - k)) W := by
 rw [run_slice_l W 23 A n c Try.underlying23 .i64 (k : Int) (by omega) (by omega), elem_boxes, sizeOf_box]
 rfl
theorem slice_low1 (W : World) (A : Option Addr) (n c k : Nat) (h1 : k + 1 ≤ n) : (Instr.slice 23 (.slice A n c) (some (.int .i64 ((k : Int) + 1))) none none).run Try.prog W = .ok (.slice (cutA A c (k + 1)) (n - (k + 1)) (c - (k + 1))) W := slice_low W A n c (k + 1) h1
theorem slice_high (W : World) (A : Option Addr) (n c k : Nat) (h1 : k ≤ c) : (Instr.slice 23 (.slice A n c) none (some (.int .i64 (k : Int))) none).run Try.prog W = .ok (.slice A k c) W := by
 rw [run_slice_h W 23 A n c Try.underlying23 .i64 (k : Int) (by omega) (by omega), elem_boxes, sizeOf_box]
 show Result.ok (sliced A 0 k c 7) W = _
 unfold sliced
 rcases Nat.eq_zero_or_pos c with h | h
 ·rw [if_pos h, Nat.sub_zero, Nat.sub_zero]
 ·rw [if_neg (by omega), Nat.sub_zero, Nat.sub_zero, Nat.zero_mul]
  cases A with
  | none => rfl
  | some a => simp [Addr.add]
section
variable {w : World} {ok : Nat → Prop} {A : Option Addr} {n c k : Nat} {l : List S33}
theorem rd_low (h : boxK.Rd w ok A n l) (hk : k ≤ n) (hc : n ≤ c) : boxK.Rd w ok (cutA A c k) (n - k) (l.drop k) := by
 have := Kind.Rd.cut (c := c) h hk (Nat.le_refl n) hc
 rw [List.take_of_length_le (by have := h.1; omega)] at this
 exact this
theorem rd_high (h : boxK.Rd w ok A n l) (hk : k ≤ n) : boxK.Rd w ok A k (l.take k) := by
 refine ⟨by rw [List.length_take]; have := h.1; omega, fun hp => ?_⟩
 obtain ⟨b, off, e, hb, hlt, hc⟩ := h.2 (by omega)
 exact ⟨b, off, e, hb, hlt, fun i x hx => hc i x (by rw [List.getElem?_take] at hx; split at hx; exact hx; cases hx)⟩
end
theorem lens_take {l : List S33} {N : Nat} (h : ∀ x ∈ l, x.f6.length ≤ N) (k : Nat) : ∀ x ∈ l.take k, x.f6.length ≤ N := fun x hx => h x (List.mem_of_mem_take hx)
theorem lens_drop {l : List S33} {N : Nat} (h : ∀ x ∈ l, x.f6.length ≤ N) (k : Nat) : ∀ x ∈ l.drop k, x.f6.length ≤ N := fun x hx => h x (List.mem_of_mem_drop hx)
def solidP (x : S33) : Bool := x.f0 != 5
def spaceB (x : S33) : Bool := x.f0 == 1
def solidG (x : S33) : Bool := (x.f0 != 1) && (x.f0 != 5)
theorem solidP_tests : Tests solidP 77 := fun x A c W hr hn => by
 obtain ⟨kd, wd, ft, sz, nm, co, ns⟩ := x
 show Calls Try.prog 77 #[.agg #[.int .i64 kd, .int .i64 wd, .int .i64 ft, .int .i64 sz, .string nm, .string co, .slice A ns.length c]] W fun e W' => e = .returned (.bool (kd != 5)) ∧ Below W.heap.size W W'
 clear hr hn
 go_enter Try.func77, Try.ntmps77
 go_wp2_with fail
 go_ret
 exact ⟨rfl, below_a _⟩
theorem spaceB_tests : Tests spaceB 60 := fun x A c W hr hn => by
 obtain ⟨kd, wd, ft, sz, nm, co, ns⟩ := x
 show Calls Try.prog 60 #[.agg #[.int .i64 kd, .int .i64 wd, .int .i64 ft, .int .i64 sz, .string nm, .string co, .slice A ns.length c]] W fun e W' => e = .returned (.bool (kd == 1)) ∧ Below W.heap.size W W'
 clear hr hn
 go_enter Try.func60, Try.ntmps60
 go_wp2_with fail
 go_ret
 exact ⟨rfl, below_a _⟩
theorem solidG_tests : Tests solidG 61 := fun x A c W hr hn => by
 obtain ⟨kd, wd, ft, sz, nm, co, ns⟩ := x
 show Calls Try.prog 61 #[.agg #[.int .i64 kd, .int .i64 wd, .int .i64 ft, .int .i64 sz, .string nm, .string co, .slice A ns.length c]] W fun e W' => e = .returned (.bool ((kd != 1) && (kd != 5))) ∧ Below W.heap.size W W'
 clear hr hn
 go_enter Try.func61, Try.ntmps61
 go_wp2_with fail
 all_goals go_ret
 all_goals exact ⟨ret_bool (by first | (simp_all; done) | (simp_all [bne])), below_a _⟩
def brk (l : List S33) (i : Nat) : Bool := match l[i]? with
 | some x => (x.f0 == 5) && (!(noneB solidP (l.take i)) && !(noneB solidP (l.drop (i + 1))))
 | none => false
def placesTo (l : List S33) (k : Nat) : List Int := ((List.range k).filter (brk l)).map fun (i : Nat) => (i : Int)
def placesL (l : List S33) : List Int := placesTo l l.length
theorem placesTo_len (l : List S33) (k : Nat) : (placesTo l k).length ≤ k := by
 unfold placesTo
 rw [List.length_map]
 exact Nat.le_trans (List.length_filter_le _ _) (by simp)
theorem placesTo_yes {l : List S33} {k : Nat} (h : brk l k = true) : placesTo l (k + 1) = placesTo l k ++ [(k : Int)] := by
 unfold placesTo
 rw [List.range_succ, List.filter_append, List.map_append]
 simp [h]
theorem placesTo_no {l : List S33} {k : Nat} (h : brk l k = false) : placesTo l (k + 1) = placesTo l k := by
 unfold placesTo
 rw [List.range_succ, List.filter_append, List.map_append]
 simp [h]
theorem brk_at {l : List S33} {k : Nat} {x : S33} (h : l[k]? = some x) : brk l k = ((x.f0 == 5) && (!(noneB solidP (l.take k)) && !(noneB solidP (l.drop (k + 1))))) := by
 unfold brk
 rw [h]
theorem places_any (A : Option Addr) (n c : Nat) (l : List S33) (ok : Nat → Prop) (w : World) (hr : boxK.Rd w ok A n l) (hc : n ≤ c) (hn : n ≤ 1000000000000) (hlen : ∀ x ∈ l, x.f6.length ≤ 9223372036854775807) :
    Calls Try.prog 63 #[.slice A n c] w fun e w' => ∃ v, e = .returned v ∧ Kind.int.Own 3 w' (fun _ => False) w.heap.size v (placesL l) ∧ Below w.heap.size w w' := by
  have HR := hide hr
  have hln : l.length = n := hr.1
  have HLN := hide hln
  have HLEN := hide hlen
  clear hr hln hlen
  go_enter Try.func63, Try.ntmps63
  go_wp2_with fail
  go_loopw [4, 5, 6, 9] (fun t4 _ _ t9 wr => ∃ (k : Nat) (v4 : Value), t9 = .int .i64 k ∧ v4 = t4 ∧ k ≤ n ∧ Hid (Kind.int.Own 3 wr (fun _ => False) w.heap.size v4 (placesTo l k)) ∧ Hid (Below w.heap.size w wr)) (fun _ _ _ t9 _ => n - (intOf t9).toNat)
  case atStart => exact ⟨0, _, rfl, rfl, Nat.zero_le _, hide (Kind.Own.nil Kind.int _ _ _ _), hide (Below.refl _ _)⟩
  case round =>
    obtain ⟨k, v4, rfl, rfl, hk, HO, HB⟩ := hrel
    by_cases hlt : k < n
    · obtain ⟨x, hx⟩ : ∃ x, l[k]? = some x := ⟨_, List.getElem?_eq_getElem (by have := HLN.out; omega)⟩
      obtain ⟨b, off, A5, c5, rfl, hr5, -, -, z0, z1, z2, z3, z4, z5, z6⟩ := box_cells (HR.out.below HB.out) hx
      have HBK := hide (brk_at hx)
      have hs1 := fun W => slice_high W (some ⟨b, off, none⟩) n c k (by omega)
      have hs2 := fun W => slice_low1 W (some ⟨b, off, none⟩) n c k (by omega)
      clear hx hr5
      go_upto_region 6 with fail
      have hbx : Below w.heap.size w (wr.alloc (.cells #[.int .i64 x.f0, .int .i64 x.f1, .int .i64 x.f2, .int .i64 x.f3, .string x.f4, .string x.f5, .slice A5 x.f6.length c5] 33)) := below_self HB.out (below_a _)
      have hox : Kind.int.Own 3 (wr.alloc (.cells #[.int .i64 x.f0, .int .i64 x.f1, .int .i64 x.f2, .int .i64 x.f3, .string x.f4, .string x.f5, .slice A5 x.f6.length c5] 33)) (fun _ => False) w.heap.size v4 (placesTo l k) := HO.out.below (below_a _)
      have hcx : (wr.alloc (.cells #[.int .i64 x.f0, .int .i64 x.f1, .int .i64 x.f2, .int .i64 x.f3, .string x.f4, .string x.f5, .slice A5 x.f6.length c5] 33)).cell? ⟨wr.heap.size, 0, none⟩ = some (.int .i64 x.f0) := by rw [blk_cell (blk_new wr _)]; rfl
      generalize (wr.alloc (.cells #[.int .i64 x.f0, .int .i64 x.f1, .int .i64 x.f2, .int .i64 x.f3, .string x.f4, .string x.f5, .slice A5 x.f6.length c5] 33)) = w1 at hbx hox hcx ⊢
      have HBX := hide hbx
      have HOX := hide hox
      clear hbx hox z0 z1 z2 z3 z4 z5 z6
      cases h5 : (x.f0 == 5) with
      | false =>
        have HNO := hide (placesTo_no (l := l) (k := k) (by rw [HBK.out, h5]; rfl))
        go_wp2_with fail
        go_roundw
        case rel => exact ⟨k + 1, v4, by go_num, rfl, by omega, by rw [HNO.out]; exact HOX, HBX⟩
        case measure => simp [intOf]; omega
      | true =>
        cases ha : noneB solidP (l.take k) with
        | true =>
          have HNO := hide (placesTo_no (l := l) (k := k) (by rw [HBK.out, ha]; simp))
          have HA := hide ha
          clear ha
          go_wp2_with (go_at_call 53; refine (ContainsFunc_box solidP 77 (fun _ _ => rfl) solidP_tests (some ⟨b, off, none⟩) k c (l.take k) ok _ (rd_high (HR.out.below HBX.out) (by omega)) (by omega) (lens_take HLEN.out k)).mono ?_; rw [HA.out]; rintro e w2 ⟨rfl, q⟩; have Q := hide q; clear q)
          go_roundw
          case rel => exact ⟨k + 1, v4, by go_num, rfl, by omega, by rw [HNO.out]; exact hide (HOX.out.below Q.out), hide (below_self HBX.out Q.out)⟩
          case measure => simp [intOf]; omega
        | false =>
          have HA := hide ha
          clear ha
          cases hd : noneB solidP (l.drop (k + 1)) with
          | true =>
            have HNO := hide (placesTo_no (l := l) (k := k) (by rw [HBK.out, hd]; simp))
            have HD := hide hd
            clear hd
            go_wp2_with (first
              | (have tok : True := trivial
                 go_at_call 53
                 refine (ContainsFunc_box solidP 77 (fun _ _ => rfl) solidP_tests (some ⟨b, off, none⟩) k c (l.take k) ok _ (rd_high (HR.out.below HBX.out) (by omega)) (by omega) (lens_take HLEN.out k)).mono ?_
                 rw [HA.out]
                 rintro e w2 ⟨rfl, q⟩
                 have Q := hide (below_self HBX.out q)
                 have Q0 := hide q
                 clear q)
              | (go_at_call 53
                 refine (ContainsFunc_box solidP 77 (fun _ _ => rfl) solidP_tests (cutA (some ⟨b, off, none⟩) c (k + 1)) (n - (k + 1)) (c - (k + 1)) (l.drop (k + 1)) ok _ (rd_low (HR.out.below Q.out) (by omega) hc) (by omega) (lens_drop HLEN.out (k + 1))).mono ?_
                 rw [HD.out]
                 rintro e w3 ⟨rfl, q⟩
                 have Q2 := hide (below_self Q.out q)
                 have Q3 := hide (below_self Q0.out q)
                 clear q))
            go_roundw
            case rel => exact ⟨k + 1, v4, by go_num, rfl, by omega, by rw [HNO.out]; exact hide (HOX.out.below Q3.out), Q2⟩
            case measure => simp [intOf]; omega
          | false =>
            have HYES := hide (placesTo_yes (l := l) (k := k) (by rw [HBK.out, h5, HA.out, hd]; rfl))
            have HD := hide hd
            clear hd
            have hpl := placesTo_len l k
            have HPL := hide hpl
            clear hpl
            go_upto_region 7 with (first
              | (go_at_call 53
                 refine (ContainsFunc_box solidP 77 (fun _ _ => rfl) solidP_tests (some ⟨b, off, none⟩) k c (l.take k) ok _ (rd_high (HR.out.below HBX.out) (by omega)) (by omega) (lens_take HLEN.out k)).mono ?_
                 rw [HA.out]
                 rintro e w2 ⟨rfl, q⟩
                 have Q := hide (below_self HBX.out q)
                 have Q0 := hide q
                 clear q)
              | (go_at_call 53
                 refine (ContainsFunc_box solidP 77 (fun _ _ => rfl) solidP_tests (cutA (some ⟨b, off, none⟩) c (k + 1)) (n - (k + 1)) (c - (k + 1)) (l.drop (k + 1)) ok _ (rd_low (HR.out.below Q.out) (by omega) hc) (by omega) (lens_drop HLEN.out (k + 1))).mono ?_
                 rw [HD.out]
                 rintro e w3 ⟨rfl, q⟩
                 have Q2 := hide (below_self Q.out q)
                 have Q3 := hide (below_self Q0.out q)
                 clear q))
            have HO3 := hide (HOX.out.below Q3.out)
            go_wp2_with (at_builtin
                         refine wpList_append_one (ok := fun _ => False) (base := w.heap.size) w3 Kind.int rfl _ _ 22 rfl 3 _ 8 Try.underlying22 info_int rfl (by decide) (by decide) v4 (placesTo l k) rfl HO3.out (k : Int) [.int .i64 (k : Int)] rfl rfl (fun _ h => h.elim) (by have := HPL.out; omega) Q2.out.size ?_
                         intro v5 w4 q1 q2 q3
                         have HO4 := hide q1
                         have HB4 := hide (Q2.out.grown q2 Q2.out.size (fun j hj => (HO3.out.lt j hj).1))
                         clear q1 q2 q3)
            go_roundw
            case rel => exact ⟨k + 1, v5, by go_num, rfl, by omega, by rw [HYES.out]; exact HO4, HB4⟩
            case measure => simp [intOf]; omega
    · have hk2 : k = n := by omega
      have ho := HO.out
      rw [hk2, ← HLN.out] at ho
      have HOF := hide ho
      clear ho hk2
      go_wp2_with fail
      go_ret
      exact ⟨_, rfl, HOF.out, HB.out⟩
end Go.Proofs.YteadghhmoggjnaaB
end
end
