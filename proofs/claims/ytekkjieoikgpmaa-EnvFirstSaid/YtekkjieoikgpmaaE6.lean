/- glyph.Valid, whole; slices.IndexFunc and ContainsFunc over boxes. -/
import Derived.Test.YtekkjieoikgpmaaE5
set_option linter.unusedVariables false
set_option linter.unusedSimpArgs false
namespace Go.Proofs.Ytekkjieoikgpmaa
open Go.RowKit
set_option maxHeartbeats 1600000
set_option maxRecDepth 1000000

theorem Valid_any (x : BoxT) (A : Option Addr) (c : Nat) (w : World) (hr : Kind.int.Rd w (fun _ => True) A x.f6.length x.f6) (hn : x.f6.length ≤ 9223372036854775807) :
    Calls Try.prog 40 #[.agg (BoxT.cells x A c).toArray] w fun e w' => e = .returned (.bool (validB x)) ∧ Below w.heap.size w w' := by
  obtain ⟨kd, wd, ft, sz, nm, co, ns⟩ := x
  have hx0 : validB ⟨kd, wd, ft, sz, nm, co, ns⟩ = (
  !(decide (wd < -1000000) || decide (1000000 < wd) || decide (ft < 0) || decide (sz < 0) || !(colourB co)) &&
  (if kd = 0 then namedB nm && (ns.length == 0)
   else if kd = 1 then ((nm.toList == []) || (nm.toList == [126])) && (co.toList == []) && (ns.length == 0)
   else if kd = 4 then (ft == 0) && (sz == 0) && (nm.size == 1) && strokeB nm && decide (ns.length ≤ 40) && allI farV ns
   else if kd = 5 then ((ft == 0) && (sz == 0) && (co.toList == []) && (ns.length == 0)) && (nm.toList == []) && (wd == 0)
   else if kd = 2 ∨ kd = 3 ∨ kd = 6 then ((ft == 0) && (sz == 0) && (co.toList == []) && (ns.length == 0)) && (nm.toList == [])
   else false)) := rfl
  have hr' : Kind.int.Rd w (fun _ => True) A ns.length ns := hr
  have hn' : ns.length ≤ 9223372036854775807 := hn
  clear hr hn
  have hl0 : ((ns.length : Int) == 0) = (ns.length == 0) := by rw [Bool.eq_iff_iff]; simp
  have hl1 : ((nm.size : Int) == 1) = (nm.size == 1) := by rw [Bool.eq_iff_iff]; simp; omega
  have hl4 : decide ((ns.length : Int) ≤ 40) = decide (ns.length ≤ 40) := by rw [Bool.eq_iff_iff]; simp; omega
  by_cases e1 : wd < -1000000
  · exact (Valid_far0 kd wd ft sz nm co ns A c w hr' hn' e1 _ rfl).mono fun e w' ⟨h1, h2⟩ => ⟨by rw [h1, hx0]; simp [e1], h2⟩
  by_cases e2 : 1000000 < wd
  · exact (Valid_far1 kd wd ft sz nm co ns A c w hr' hn' e2 _ rfl).mono fun e w' ⟨h1, h2⟩ => ⟨by rw [h1, hx0]; simp [e2], h2⟩
  by_cases e3 : ft < 0
  · exact (Valid_far2 kd wd ft sz nm co ns A c w hr' hn' e3 _ rfl).mono fun e w' ⟨h1, h2⟩ => ⟨by rw [h1, hx0]; simp [e3], h2⟩
  by_cases e4 : sz < 0
  · exact (Valid_far3 kd wd ft sz nm co ns A c w hr' hn' e4 _ rfl).mono fun e w' ⟨h1, h2⟩ => ⟨by rw [h1, hx0]; simp [e4], h2⟩
  have g1 : -1000000 ≤ wd := by omega
  have g2 : wd ≤ 1000000 := by omega
  have g3 : 0 ≤ ft := by omega
  have g4 : 0 ≤ sz := by omega
  cases hc : colourB co with
  | false => exact (Valid_grey kd wd ft sz nm co ns A c w hr' hn' g1 g2 g3 g4 hc).mono fun e w' ⟨h1, h2⟩ => ⟨by rw [h1, hx0]; simp [hc], h2⟩
  | true =>
    have hx1 : validB ⟨kd, wd, ft, sz, nm, co, ns⟩ = (if kd = 0 then namedB nm && (ns.length == 0)
       else if kd = 1 then ((nm.toList == []) || (nm.toList == [126])) && (co.toList == []) && (ns.length == 0)
       else if kd = 4 then (ft == 0) && (sz == 0) && (nm.size == 1) && strokeB nm && decide (ns.length ≤ 40) && allI farV ns
       else if kd = 5 then ((ft == 0) && (sz == 0) && (co.toList == []) && (ns.length == 0)) && (nm.toList == []) && (wd == 0)
       else if kd = 2 ∨ kd = 3 ∨ kd = 6 then ((ft == 0) && (sz == 0) && (co.toList == []) && (ns.length == 0)) && (nm.toList == [])
       else false) := by
      rw [hx0, hc, decide_eq_false e1, decide_eq_false e2, decide_eq_false e3, decide_eq_false e4]
      rfl
    clear hx0 e1 e2 e3 e4
    by_cases k0 : kd = 0
    · subst k0
      exact (Valid_0 wd ft sz nm co ns A c w hr' hn' g1 g2 g3 g4 hc).mono fun e w' ⟨h1, h2⟩ => ⟨by rw [h1, hx1, if_pos rfl, hl0], h2⟩
    by_cases k1 : kd = 1
    · subst k1
      exact (Valid_1 wd ft sz nm co ns A c w hr' hn' g1 g2 g3 g4 hc).mono fun e w' ⟨h1, h2⟩ => ⟨by rw [h1, hx1, if_neg (by omega), if_pos rfl, hl0], h2⟩
    by_cases k4 : kd = 4
    · subst k4
      exact (Valid_4 wd ft sz nm co ns A c w hr' hn' g1 g2 g3 g4 hc).mono fun e w' ⟨h1, h2⟩ => ⟨by rw [h1, hx1, if_neg (by omega), if_neg (by omega), if_pos rfl, hl1, hl4], h2⟩
    by_cases k5 : kd = 5
    · subst k5
      exact (Valid_5 wd ft sz nm co ns A c w hr' hn' g1 g2 g3 g4 hc).mono fun e w' ⟨h1, h2⟩ => ⟨by rw [h1, hx1, if_neg (by omega), if_neg (by omega), if_neg (by omega), if_pos rfl, hl0], h2⟩
    by_cases k2 : kd = 2
    · subst k2
      exact (Valid_2 wd ft sz nm co ns A c w hr' hn' g1 g2 g3 g4 hc).mono fun e w' ⟨h1, h2⟩ => ⟨by rw [h1, hx1, if_neg (by omega), if_neg (by omega), if_neg (by omega), if_neg (by omega), if_pos (by omega), hl0], h2⟩
    by_cases k3 : kd = 3
    · subst k3
      exact (Valid_3 wd ft sz nm co ns A c w hr' hn' g1 g2 g3 g4 hc).mono fun e w' ⟨h1, h2⟩ => ⟨by rw [h1, hx1, if_neg (by omega), if_neg (by omega), if_neg (by omega), if_neg (by omega), if_pos (by omega), hl0], h2⟩
    by_cases k6 : kd = 6
    · subst k6
      exact (Valid_6 wd ft sz nm co ns A c w hr' hn' g1 g2 g3 g4 hc).mono fun e w' ⟨h1, h2⟩ => ⟨by rw [h1, hx1, if_neg (by omega), if_neg (by omega), if_neg (by omega), if_neg (by omega), if_pos (by omega), hl0], h2⟩
    exact (Valid_no kd wd ft sz nm co ns A c w hr' hn' g1 g2 g3 g4 hc k0 k1 k2 k3 k4 k5 k6).mono fun e w' ⟨h1, h2⟩ => ⟨by rw [h1, hx1, if_neg k0, if_neg k1, if_neg k4, if_neg k5, if_neg (by omega)], h2⟩

theorem box_cells {w : World} {ok : Nat → Prop} {A : Option Addr} {n i : Nat} {l : List BoxT} {x : BoxT} (h : boxK.Rd w ok A n l) (hx : l[i]? = some x) :
    ∃ b off A5 c5, A = some ⟨b, off, none⟩ ∧ Kind.int.Rd w ok A5 x.f6.length x.f6 ∧ x.f6.length ≤ c5 ∧ ok b ∧ w.cell? ⟨b, off + i * 7, none⟩ = some (.int .i64 x.f0) ∧ w.cell? ⟨b, off + i * 7 + 1, none⟩ = some (.int .i64 x.f1) ∧ w.cell? ⟨b, off + i * 7 + 2, none⟩ = some (.int .i64 x.f2) ∧
      w.cell? ⟨b, off + i * 7 + 3, none⟩ = some (.int .i64 x.f3) ∧ w.cell? ⟨b, off + i * 7 + 4, none⟩ = some (.string x.f4) ∧ w.cell? ⟨b, off + i * 7 + 5, none⟩ = some (.string x.f5) ∧ w.cell? ⟨b, off + i * 7 + 6, none⟩ = some (.slice A5 x.f6.length c5) := by
  obtain ⟨hi, rfl⟩ := List.getElem?_eq_some_iff.1 hx
  obtain ⟨b', off', e', hok, -, -⟩ := h.2 (by have := h.1; omega)
  obtain ⟨b, off, cs, e, hb, ⟨A5, c5, rfl, hl, -, hr⟩, hc⟩ := h.at_ hi
  rw [e] at e'
  cases e'
  exact ⟨_, _, A5, c5, e, hr, hl, hok, hc 0 _ rfl, hc 1 _ rfl, hc 2 _ rfl, hc 3 _ rfl, hc 4 _ rfl, hc 5 _ rfl, hc 6 _ rfl⟩

def noneB (p : BoxT → Bool) (l : List BoxT) : Bool := l.all fun x => !(p x)
/-- Where the first is, or -1. -/
def idxI (p : BoxT → Bool) (l : List BoxT) : Int := if l.findIdx p < l.length then (l.findIdx p : Int) else -1
theorem idxI_hit {p : BoxT → Bool} {l : List BoxT} {k : Nat} {x : BoxT} (h : noneB p (l.take k) = true) (hx : l[k]? = some x) (hp : p x = true) : idxI p l = (k : Int) := by
  obtain ⟨hk, rfl⟩ := List.getElem?_eq_some_iff.1 hx
  have h1 : l.findIdx p = k := by
    rw [List.findIdx_eq hk]
    refine ⟨hp, fun j hj => ?_⟩
    have := List.all_eq_true.1 h l[j] (by rw [List.mem_take_iff_getElem]; exact ⟨j, by omega, rfl⟩)
    simpa using this
  unfold idxI
  rw [h1, if_pos hk]
theorem idxI_none {p : BoxT → Bool} {l : List BoxT} (h : noneB p l = true) : idxI p l = -1 := by
  unfold idxI
  rw [if_neg]
  rw [List.findIdx_lt_length]
  rintro ⟨x, hx, hp⟩
  have := List.all_eq_true.1 h x hx
  rw [hp] at this
  cases this
theorem idxI_ge (p : BoxT → Bool) (l : List BoxT) : decide (0 ≤ idxI p l) = !(noneB p l) := by
  cases h : noneB p l with
  | true => rw [idxI_none h]; rfl
  | false =>
    unfold noneB at h
    rw [List.all_eq_false] at h
    obtain ⟨x, hx, hp⟩ := h
    have : l.findIdx p < l.length := List.findIdx_lt_length.2 ⟨x, hx, by simpa using hp⟩
    unfold idxI
    rw [if_pos this]
    simp
theorem take_none (p : BoxT → Bool) (l : List BoxT) (k : Nat) {x : BoxT} (h : l[k]? = some x) : noneB p (l.take (k + 1)) = (noneB p (l.take k) && !(p x)) := by
  obtain ⟨hk, rfl⟩ := List.getElem?_eq_some_iff.1 h
  unfold noneB
  rw [List.take_succ_eq_append_getElem hk, List.all_append]
  simp
/-- What a test over boxes answers. -/
def Tests (p : BoxT → Bool) (gf : Nat) : Prop := ∀ (x : BoxT) (A : Option Addr) (c : Nat) (W : World), Kind.int.Rd W (fun _ => True) A x.f6.length x.f6 → x.f6.length ≤ 9223372036854775807 → Calls Try.prog gf #[.agg (BoxT.cells x A c).toArray] W fun e W' => e = .returned (.bool (p x)) ∧ Below W.heap.size W W'
section
variable (p : BoxT → Bool) (gf : Nat) (eg : ∀ args w, (callFunc gf args).run Try.prog w = .ok (.enter gf args) w) (hp : Tests p gf)
include eg hp
theorem IndexFunc_box (A : Option Addr) (n c : Nat) (l : List BoxT) (ok : Nat → Prop) (w : World) (hr : boxK.Rd w ok A n l) (hn : n ≤ 9223372036854775807) (hlen : ∀ x ∈ l, x.f6.length ≤ 9223372036854775807) :
    Calls Try.prog 66 #[.slice A n c, .func (.func gf) #[] #[]] w fun e w' => e = .returned (.int .i64 (idxI p l)) ∧ Below w.heap.size w w' := by
  have HR := hide hr
  have hln : l.length = n := hr.1
  have HLN := hide hln
  have HP := hide hp
  have HLEN := hide hlen
  clear hr hln hp hlen
  go_enter Try.func66, Try.ntmps66
  go_wp2_with fail
  go_loopw [5, 8] (fun _ t8 wr => ∃ k : Nat, t8 = .int .i64 k ∧ k ≤ n ∧ Hid (noneB p (l.take k) = true) ∧ Hid (Below w.heap.size w wr)) (fun _ t8 _ => n - (intOf t8).toNat)
  case atStart => exact ⟨0, rfl, Nat.zero_le _, hide rfl, hide (Below.refl _ _)⟩
  case round =>
    obtain ⟨k, rfl, hk, HG, HB⟩ := hrel
    by_cases hlt : k < n
    · obtain ⟨x, hx⟩ : ∃ x, l[k]? = some x := ⟨_, List.getElem?_eq_getElem (by have := HLN.out; omega)⟩
      obtain ⟨b, off, A5, c5, rfl, hr5, -, -, z0, z1, z2, z3, z4, z5, z6⟩ := box_cells (HR.out.below HB.out) hx
      have HR5 := hide (hr5.weaken (ok' := fun _ => True) (fun _ _ => trivial))
      have HL5 := hide (HLEN.out x (List.mem_of_getElem? hx))
      have hts := take_none p l k hx
      rw [HG.out] at hts
      have HTS := hide hts
      have HX := hide hx
      clear hts hx hr5
      cases hb : p x with
      | true =>
        have HPB := hide hb
        clear hb
        go_wp2_with (go_at_fn gf; refine (HP.out x A5 c5 _ HR5.out HL5.out).mono ?_; rw [HPB.out]; rintro e w2 ⟨rfl, q⟩; have Q := hide q; clear q)
        go_ret
        exact ⟨ret_int (idxI_hit HG.out HX.out HPB.out).symm, below_self HB.out Q.out⟩
      | false =>
        have HPB := hide hb
        clear hb
        go_wp2_with (go_at_fn gf; refine (HP.out x A5 c5 _ HR5.out HL5.out).mono ?_; rw [HPB.out]; rintro e w2 ⟨rfl, q⟩; have Q := hide q; clear q)
        go_roundw
        case rel => exact ⟨k + 1, by go_num, by omega, hide (by rw [HTS.out, HPB.out]; rfl), hide (below_self HB.out Q.out)⟩
        case measure => simp [intOf]; omega
    · have hg := HG.out
      rw [List.take_of_length_le (by have := HLN.out; omega)] at hg
      have HA := hide hg
      clear hg
      go_wp2_with fail
      go_ret
      exact ⟨ret_int (idxI_none HA.out).symm, HB.out⟩
theorem ContainsFunc_box (A : Option Addr) (n c : Nat) (l : List BoxT) (ok : Nat → Prop) (w : World) (hr : boxK.Rd w ok A n l) (hn : n ≤ 9223372036854775807) (hlen : ∀ x ∈ l, x.f6.length ≤ 9223372036854775807) :
    Calls Try.prog 38 #[.slice A n c, .func (.func gf) #[] #[]] w fun e w' => e = .returned (.bool !(noneB p l)) ∧ Below w.heap.size w w' := by
  have H := hide (IndexFunc_box p gf eg hp A n c l ok w hr hn hlen)
  have hi := idxI_ge p l
  obtain ⟨r, hre⟩ : ∃ r, r = idxI p l := ⟨_, rfl⟩
  rw [← hre] at H hi
  have HI := hide hi
  clear hr hp hlen hi hre
  go_enter Try.func38, Try.ntmps38
  go_wp2_with (go_at_call 66; refine (H.out).mono ?_; rintro e w' ⟨rfl, q⟩; have Q := hide q; clear q)
  go_ret
  exact ⟨ret_bool HI.out, Q.out⟩
end
end Go.Proofs.Ytekkjieoikgpmaa
