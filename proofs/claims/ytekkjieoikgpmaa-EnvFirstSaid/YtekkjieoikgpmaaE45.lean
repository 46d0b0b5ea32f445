/- The reference's Valid of a box. -/
import Derived.Test.YtekkjieoikgpmaaE43
import Derived.Test.YtekkjieoikgpmaaE44
import Derived.Deep.DeepCutAuto
set_option linter.unusedVariables false
set_option linter.unusedSimpArgs false
namespace Go.Proofs.Ytekkjieoikgpmaa
open Go.RowKit
set_option maxHeartbeats 3200000
set_option maxRecDepth 1000000

/-- Nothing is in colour and numbers; font, size and name are nothing. -/
def noneQ (co : ByteArray) (ns : List Int) : Bool := co.toList.isEmpty && decide (ns.length = 0)
def stillQ (ft sz : Int) (nm : ByteArray) : Bool := (ft == 0) && ((sz == 0) && nm.toList.isEmpty)
theorem colour_empty {co : ByteArray} (h : co.toList.isEmpty = true) : colourB co = true := by
  have h0 := empty_size h
  have hl : co.data.toList.length = co.size := Array.length_toList
  have hn : co.data.toList = [] := List.eq_nil_of_length_eq_zero (by omega)
  unfold colourB
  rw [hn, h0]
  rfl
theorem beq_nil (l : List UInt8) : (l == []) = l.isEmpty := by cases l <;> rfl
theorem beq_zero (n : Nat) : (n == 0) = decide (n = 0) := by cases n <;> rfl
def strokeQ (s : ByteArray) : Bool := (s.toList == [108]) || ((s.toList == [99]) || ((s.toList == [101]) || ((s.toList == [97]) || (s.toList == [126]))))
def fineQ (nm : ByteArray) (ns : List Int) : Bool := decide (ns.length ≤ 40) && strokeQ nm
theorem stroke_same (nm : ByteArray) : ((nm.size == 1) && strokeB nm) = strokeQ nm := by
  have e : strokeB nm = strokeQ nm := by
    unfold strokeB strokeQ
    rw [ByteArray.toList_eq]
    cases (nm.data.toList == [108]) <;> cases (nm.data.toList == [99]) <;> cases (nm.data.toList == [101]) <;> cases (nm.data.toList == [97]) <;> cases (nm.data.toList == [126]) <;> rfl
  rw [e]
  cases h : strokeQ nm with
  | false => simp
  | true =>
    have hl : nm.data.toList.length = nm.size := Array.length_toList
    have : nm.size = 1 := by
      unfold strokeQ at h
      rw [ByteArray.toList_eq] at h
      simp only [Bool.or_eq_true, beq_iff_eq] at h
      rcases h with h | h | h | h | h <;> (rw [h] at hl; exact hl.symm)
    rw [this]
    rfl
section
variable (wd ft sz : Int) (nm co : ByteArray) (ns : List Int) (h1 : ¬ wd < -1000000) (h2 : ¬ 1000000 < wd) (h3 : ¬ ft < 0) (h4 : ¬ sz < 0)
include h1 h2 h3 h4
theorem validB_5 : validB ⟨5, wd, ft, sz, nm, co, ns⟩ = (noneQ co ns && (stillQ ft sz nm && (wd == 0))) := by
  unfold validB noneQ stillQ bareB
  simp only [decide_eq_false h1, decide_eq_false h2, decide_eq_false h3, decide_eq_false h4, Bool.false_or, beq_nil, beq_zero]
  cases hc : co.toList.isEmpty
  · simp
  · rw [colour_empty hc]
    cases nm.toList.isEmpty <;> cases (ft == 0) <;> cases (sz == 0) <;> cases (wd == 0) <;> cases decide (ns.length = 0) <;> rfl
theorem validB_still (kd : Int) (hk : kd = 2 ∨ kd = 3 ∨ kd = 6) : validB ⟨kd, wd, ft, sz, nm, co, ns⟩ = (noneQ co ns && stillQ ft sz nm) := by
  unfold validB noneQ stillQ bareB
  have e0 : ¬ kd = 0 := by omega
  have e1 : ¬ kd = 1 := by omega
  have e4 : ¬ kd = 4 := by omega
  have e5 : ¬ kd = 5 := by omega
  simp only [decide_eq_false h1, decide_eq_false h2, decide_eq_false h3, decide_eq_false h4, Bool.false_or, beq_nil, beq_zero, if_neg e0, if_neg e1, if_neg e4, if_neg e5, if_pos hk]
  cases hc : co.toList.isEmpty
  · simp
  · rw [colour_empty hc]
    cases nm.toList.isEmpty <;> cases (ft == 0) <;> cases (sz == 0) <;> cases decide (ns.length = 0) <;> rfl
theorem validB_4 : validB ⟨4, wd, ft, sz, nm, co, ns⟩ = ((fineQ nm ns && allI farV ns) && (colourB co && ((ft == 0) && (sz == 0)))) := by
  unfold validB fineQ
  simp only [decide_eq_false h1, decide_eq_false h2, decide_eq_false h3, decide_eq_false h4, Bool.false_or]
  rw [← stroke_same]
  simp only [show ¬ (4 : Int) = 0 by omega, show ¬ (4 : Int) = 1 by omega, if_true, if_false]
  cases colourB co <;> cases (ft == 0) <;> cases (sz == 0) <;> cases (nm.size == 1) <;> cases strokeB nm <;> cases decide (ns.length ≤ 40) <;> cases allI farV ns <;> rfl
end
theorem validB_none (kd wd ft sz : Int) (nm co : ByteArray) (ns : List Int) (k0 : ¬ kd = 0) (k1 : ¬ kd = 1) (k2 : ¬ kd = 2) (k3 : ¬ kd = 3) (k4 : ¬ kd = 4) (k5 : ¬ kd = 5) (k6 : ¬ kd = 6) : validB ⟨kd, wd, ft, sz, nm, co, ns⟩ = false := by
  unfold validB
  simp [k0, k1, k2, k3, k4, k5, k6]
theorem refValid8_any (kd wd ft sz : Int) (nm co : ByteArray) (ns : List Int) (A : Option Addr) (c : Nat) (w : World) (hr : Kind.int.Rd w (fun _ => True) A ns.length ns) (hn : ns.length ≤ 9223372036854775807) (hs : nm.size ≤ 9223372036854775807) (hs2 : co.size ≤ 9223372036854775807)
    (h1 : ¬ wd < -1000000) (h2 : ¬ 1000000 < wd) (h3 : ¬ ft < 0) (h4 : ¬ sz < 0) :
    Calls Try.prog 46 #[.agg (BoxT.cells ⟨kd, wd, ft, sz, nm, co, ns⟩ A c).toArray] w fun e w' => e = .returned (.bool (validB ⟨kd, wd, ft, sz, nm, co, ns⟩)) ∧ Below w.heap.size w w' := by
  have HR := hide hr
  have HN := hide hn
  have HB0 := hide (BoxAt.new w ⟨kd, wd, ft, sz, nm, co, ns⟩ A c)
  show Calls Try.prog 46 #[.agg #[.int .i64 kd, .int .i64 wd, .int .i64 ft, .int .i64 sz, .string nm, .string co, .slice A ns.length c]] w _
  clear hr hn
  obtain ⟨nn, hnn⟩ : ∃ nn, nn = ns.length := ⟨_, rfl⟩
  rw [← hnn]
  have HNN := hide hnn
  clear hnn
  go_enter Try.func46, Try.ntmps46
  go_upto_region 1 with fail
  obtain ⟨w1, hw1⟩ : ∃ w1, w1 = w.alloc (.cells #[.int .i64 kd, .int .i64 wd, .int .i64 ft, .int .i64 sz, .string nm, .string co, .slice A nn c] 86) := ⟨_, rfl⟩
  have HB1 : Hid (BoxAt w w1 ⟨kd, wd, ft, sz, nm, co, ns⟩ A c) := hide (by rw [hw1, HNN.out]; exact HB0.out)
  rw [← hw1]
  clear hw1 HB0
  obtain ⟨x0, x1, x2, x3, x4, x5, x6⟩ := HB1.out.cells
  rw [← HNN.out] at x6
  obtain ⟨gb, hgb⟩ : ∃ gb, gb = w.heap.size := ⟨_, rfl⟩
  have HGB := hide hgb
  rw [← hgb] at x0 x1 x2 x3 x4 x5 x6 ⊢
  clear hgb
  go_upto_region 3 with fail
  go_cut [3] (fun s3 wx => s3 = .bool (noneQ co ns) ∧ w1 = wx)
  case first =>
    cases he : co.toList.isEmpty with
    | true =>
      by_cases h0 : (nn : Int) = 0
      · have hv : noneQ co ns = true := by unfold noneQ; rw [he, ← HNN.out, decide_eq_true (show nn = 0 by omega)]; rfl
        have HV := hide hv
        clear hv
        go_wp2_with fail
        go_meet
        exact ⟨by rw [HV.out], rfl⟩
      · have hv : noneQ co ns = false := by unfold noneQ; rw [he, ← HNN.out, decide_eq_false (show ¬ nn = 0 by omega)]; rfl
        have HV := hide hv
        have h0b : ((nn : Int) == 0) = false := beq_eq_false_iff_ne.2 h0
        clear hv
        go_wp2_with fail
        go_meet
        exact ⟨by rw [HV.out], rfl⟩
    | false =>
      have hv : noneQ co ns = false := by unfold noneQ; rw [he]; rfl
      have HV := hide hv
      clear hv
      go_wp2_with fail
      go_meet
      exact ⟨by rw [HV.out], rfl⟩
  obtain ⟨rfl, rfl⟩ := hcut
  go_upto_region 4 with fail
  go_cut [4] (fun s4 wx => s4 = .bool (stillQ ft sz nm) ∧ w1 = wx)
  case first =>
    cases h5 : (ft == 0) with
    | true =>
      cases h6 : (sz == 0) with
      | true =>
        cases he : nm.toList.isEmpty with
        | true =>
          have HV := hide (show stillQ ft sz nm = true by unfold stillQ; rw [he, h5, h6]; rfl)
          go_wp2_with fail
          go_meet
          exact ⟨by rw [HV.out], rfl⟩
        | false =>
          have HV := hide (show stillQ ft sz nm = false by unfold stillQ; rw [he, h5, h6]; rfl)
          go_wp2_with fail
          go_meet
          exact ⟨by rw [HV.out], rfl⟩
      | false =>
        have HV := hide (show stillQ ft sz nm = false by unfold stillQ; rw [h5, h6]; rfl)
        go_wp2_with fail
        go_meet
        exact ⟨by rw [HV.out], rfl⟩
    | false =>
      have HV := hide (show stillQ ft sz nm = false by unfold stillQ; rw [h5]; rfl)
      go_wp2_with fail
      go_meet
      exact ⟨by rw [HV.out], rfl⟩
  obtain ⟨rfl, rfl⟩ := hcut
  have HBEL := hide HB1.out.bel
  by_cases k0 : kd = 0
  · subst k0
    have HV := hide (show validB ⟨0, wd, ft, sz, nm, co, ns⟩ = (namedB nm && (colourB co && (ns.length == 0))) from by
      unfold validB
      simp only [decide_eq_false h1, decide_eq_false h2, decide_eq_false h3, decide_eq_false h4, Bool.false_or, if_true]
      cases namedB nm <;> cases colourB co <;> cases (ns.length == 0) <;> rfl)
    cases hn : namedB nm with
    | false =>
      go_wp2_with (go_at_call 75; refine (refIsName_any nm _ hs).mono ?_; rw [hn]; rintro e w2 ⟨rfl, rfl⟩)
      go_ret
      exact ⟨ret_bool (by rw [HV.out]; simp [hn]), HBEL.out⟩
    | true =>
      cases hc : colourB co with
      | false =>
        go_wp2_with (first
          | (go_at_call 75; refine (refIsName_any nm _ hs).mono ?_; rw [hn]; rintro e w2 ⟨rfl, rfl⟩)
          | (go_at_call 76; refine (refColour8_any co _ hs2).mono ?_; rw [hc]; rintro e w2 ⟨rfl, rfl⟩))
        go_ret
        exact ⟨ret_bool (by rw [HV.out]; simp [hc]), HBEL.out⟩
      | true =>
        cases hz : ((nn : Int) == 0) with
        | false =>
          have HZ := hide (show (ns.length == 0) = false by rw [← HNN.out]; simpa using hz)
          go_wp2_with (first
            | (go_at_call 75; refine (refIsName_any nm _ hs).mono ?_; rw [hn]; rintro e w2 ⟨rfl, rfl⟩)
            | (go_at_call 76; refine (refColour8_any co _ hs2).mono ?_; rw [hc]; rintro e w2 ⟨rfl, rfl⟩))
          go_ret
          exact ⟨ret_bool (by rw [HV.out, HZ.out]; simp), HBEL.out⟩
        | true =>
          have HZ := hide (show (ns.length == 0) = true by rw [← HNN.out]; simpa using hz)
          go_wp2_with (first
            | (go_at_call 75; refine (refIsName_any nm _ hs).mono ?_; rw [hn]; rintro e w2 ⟨rfl, rfl⟩)
            | (go_at_call 76; refine (refColour8_any co _ hs2).mono ?_; rw [hc]; rintro e w2 ⟨rfl, rfl⟩))
          go_ret
          exact ⟨ret_bool (by rw [HV.out, HZ.out, hn, hc]; rfl), HBEL.out⟩
  by_cases k1 : kd = 1
  · subst k1
    have HV := hide (show validB ⟨1, wd, ft, sz, nm, co, ns⟩ = (noneQ co ns && (nm.toList.isEmpty || (nm.toList == [126]))) from by
      unfold validB noneQ
      simp only [decide_eq_false h1, decide_eq_false h2, decide_eq_false h3, decide_eq_false h4, Bool.false_or, beq_nil, beq_zero]
      cases hc : co.toList.isEmpty
      · simp
      · rw [colour_empty hc]
        cases nm.toList.isEmpty <;> cases (nm.toList == [126]) <;> cases decide (ns.length = 0) <;> rfl)
    cases hq : noneQ co ns with
    | false =>
      go_wp2_with fail
      go_ret
      exact ⟨ret_bool (by rw [HV.out, hq]; rfl), HBEL.out⟩
    | true =>
      cases he : nm.toList.isEmpty with
      | true =>
        go_wp2_with fail
        go_ret
        exact ⟨ret_bool (by rw [HV.out, hq, he]; rfl), HBEL.out⟩
      | false =>
        cases ht : (nm.toList == [126]) with
        | true =>
          go_wp2_with fail
          go_ret
          exact ⟨ret_bool (by rw [HV.out, hq, he, ht]; rfl), HBEL.out⟩
        | false =>
          go_wp2_with fail
          go_ret
          exact ⟨ret_bool (by rw [HV.out, hq, he, ht]; rfl), HBEL.out⟩
  by_cases k2 : kd = 2
  · subst k2
    have HV := hide (validB_still wd ft sz nm co ns h1 h2 h3 h4 2 (.inl rfl))
    cases hq : noneQ co ns with
    | false =>
      go_wp2_with fail
      go_ret
      exact ⟨ret_bool (by rw [HV.out, hq]; rfl), HBEL.out⟩
    | true =>
      cases hst : stillQ ft sz nm with
      | false =>
        go_wp2_with fail
        go_ret
        exact ⟨ret_bool (by rw [HV.out, hq, hst]; rfl), HBEL.out⟩
      | true =>
        go_wp2_with fail
        go_ret
        exact ⟨ret_bool (by rw [HV.out, hq, hst]; rfl), HBEL.out⟩
  by_cases k3 : kd = 3
  · subst k3
    have HV := hide (validB_still wd ft sz nm co ns h1 h2 h3 h4 3 (.inr (.inl rfl)))
    cases hq : noneQ co ns with
    | false =>
      go_wp2_with fail
      go_ret
      exact ⟨ret_bool (by rw [HV.out, hq]; rfl), HBEL.out⟩
    | true =>
      cases hst : stillQ ft sz nm with
      | false =>
        go_wp2_with fail
        go_ret
        exact ⟨ret_bool (by rw [HV.out, hq, hst]; rfl), HBEL.out⟩
      | true =>
        go_wp2_with fail
        go_ret
        exact ⟨ret_bool (by rw [HV.out, hq, hst]; rfl), HBEL.out⟩
  by_cases k6 : kd = 6
  · subst k6
    have HV := hide (validB_still wd ft sz nm co ns h1 h2 h3 h4 6 (.inr (.inr rfl)))
    cases hq : noneQ co ns with
    | false =>
      go_wp2_with fail
      go_ret
      exact ⟨ret_bool (by rw [HV.out, hq]; rfl), HBEL.out⟩
    | true =>
      cases hst : stillQ ft sz nm with
      | false =>
        go_wp2_with fail
        go_ret
        exact ⟨ret_bool (by rw [HV.out, hq, hst]; rfl), HBEL.out⟩
      | true =>
        go_wp2_with fail
        go_ret
        exact ⟨ret_bool (by rw [HV.out, hq, hst]; rfl), HBEL.out⟩
  by_cases k5 : kd = 5
  · subst k5
    have HV := hide (validB_5 wd ft sz nm co ns h1 h2 h3 h4)
    cases hq : noneQ co ns with
    | false =>
      go_wp2_with fail
      go_ret
      exact ⟨ret_bool (by rw [HV.out, hq]; rfl), HBEL.out⟩
    | true =>
      cases hst : stillQ ft sz nm with
      | false =>
        go_wp2_with fail
        go_ret
        exact ⟨ret_bool (by rw [HV.out, hq, hst]; rfl), HBEL.out⟩
      | true =>
        cases hw : (wd == 0) with
        | false =>
          go_wp2_with fail
          go_ret
          exact ⟨ret_bool (by rw [HV.out, hq, hst, hw]; rfl), HBEL.out⟩
        | true =>
          go_wp2_with fail
          go_ret
          exact ⟨ret_bool (by rw [HV.out, hq, hst, hw]; rfl), HBEL.out⟩
  by_cases k4 : kd = 4
  · subst k4
    have HV := hide (validB_4 wd ft sz nm co ns h1 h2 h3 h4)
    go_upto_region 16 with fail
    go_cut [5] (fun s5 wx => s5 = .bool (fineQ nm ns) ∧ w1 = wx)
    case first =>
      by_cases h40 : (nn : Int) ≤ 40
      · have HF := hide (show fineQ nm ns = strokeQ nm by unfold fineQ; rw [← HNN.out, decide_eq_true (show nn ≤ 40 by omega), Bool.true_and])
        cases e1 : (nm.toList == [108]) with
        | true =>
          have HS := hide (show strokeQ nm = true by unfold strokeQ; rw [e1]; rfl)
          go_wp2_with fail
          go_meet
          exact ⟨by rw [HF.out, HS.out], rfl⟩
        | false =>
          cases e2 : (nm.toList == [99]) with
          | true =>
            have HS := hide (show strokeQ nm = true by unfold strokeQ; rw [e1, e2]; rfl)
            go_wp2_with fail
            go_meet
            exact ⟨by rw [HF.out, HS.out], rfl⟩
          | false =>
            cases e3 : (nm.toList == [101]) with
            | true =>
              have HS := hide (show strokeQ nm = true by unfold strokeQ; rw [e1, e2, e3]; rfl)
              go_wp2_with fail
              go_meet
              exact ⟨by rw [HF.out, HS.out], rfl⟩
            | false =>
              cases e4 : (nm.toList == [97]) with
              | true =>
                have HS := hide (show strokeQ nm = true by unfold strokeQ; rw [e1, e2, e3, e4]; rfl)
                go_wp2_with fail
                go_meet
                exact ⟨by rw [HF.out, HS.out], rfl⟩
              | false =>
                cases e5 : (nm.toList == [126]) with
                | true =>
                  have HS := hide (show strokeQ nm = true by unfold strokeQ; rw [e1, e2, e3, e4, e5]; rfl)
                  go_wp2_with fail
                  go_meet
                  exact ⟨by rw [HF.out, HS.out], rfl⟩
                | false =>
                  have HS := hide (show strokeQ nm = false by unfold strokeQ; rw [e1, e2, e3, e4, e5]; rfl)
                  go_wp2_with fail
                  go_meet
                  exact ⟨by rw [HF.out, HS.out], rfl⟩
      · have HF := hide (show fineQ nm ns = false by unfold fineQ; rw [← HNN.out, decide_eq_false (show ¬ nn ≤ 40 by omega), Bool.false_and])
        go_wp2_with fail
        go_meet
        exact ⟨by rw [HF.out], rfl⟩
    obtain ⟨rfl, rfl⟩ := hcut
    obtain ⟨fq, hfq⟩ : ∃ fq, fq = fineQ nm ns := ⟨_, rfl⟩
    have HFQ := hide hfq
    rw [← hfq]
    clear hfq
    have HR1 := hide (HR.out.below HB1.out.bel)
    go_wp2_with fail
    go_loopw [5, 6] (fun t5 t6 wr => ∃ (k : Nat) (b : Bool), t6 = .int .i64 k ∧ k ≤ nn ∧ t5 = .bool b ∧ Hid (b = (fq && allI farV (ns.take k))) ∧ w1 = wr) (fun _ t6 _ => nn - (intOf t6).toNat)
    case atStart => exact ⟨0, fq, rfl, Nat.zero_le _, rfl, hide (by simp [allI]), rfl⟩
    case round =>
      obtain ⟨k, b, rfl, hk, rfl, HG, rfl⟩ := hrel
      have hn9 : nn ≤ 9223372036854775807 := by rw [HNN.out]; exact HN.out
      by_cases hlt : k < nn
      · obtain ⟨y, hy⟩ : ∃ y, ns[k]? = some y := ⟨_, List.getElem?_eq_getElem (by have := HNN.out; omega)⟩
        obtain ⟨hkl, hye⟩ := List.getElem?_eq_some_iff.1 hy
        have HT := hide (show (fq && allI farV (ns.take (k + 1))) = (b && !(farV y)) by rw [take_alli farV ns k hkl, hye, HG.out, Bool.and_assoc])
        obtain ⟨q1, o1, rfl, z0⟩ := rd_int HR1.out hy
        have i1 : (0 : Int) ≤ (k : Int) := by omega
        have i2 : (k : Int) < (nn : Int) := by omega
        clear hy hkl hye
        cases b with
        | false =>
          go_wp2_with fail
          go_roundw
          case rel => exact ⟨k + 1, false, by go_num, by omega, rfl, hide (by rw [HT.out]; rfl), by first | rfl | trivial⟩
          case measure => simp [intOf]; omega
        | true =>
          by_cases y1 : -1000000 ≤ y
          · by_cases y2 : y ≤ 1000000
            · have HY := hide (show farV y = false by unfold farV; simp; omega)
              go_wp2_with fail
              go_roundw
              case rel => exact ⟨k + 1, true, by go_num, by omega, rfl, hide (by rw [HT.out, HY.out]; rfl), by first | rfl | trivial⟩
              case measure => simp [intOf]; omega
            · have HY := hide (show farV y = true by unfold farV; simp; omega)
              go_wp2_with fail
              go_roundw
              case rel => exact ⟨k + 1, false, by go_num, by omega, rfl, hide (by rw [HT.out, HY.out]; rfl), by first | rfl | trivial⟩
              case measure => simp [intOf]; omega
          · have HY := hide (show farV y = true by unfold farV; simp; omega)
            go_wp2_with fail
            go_roundw
            case rel => exact ⟨k + 1, false, by go_num, by omega, rfl, hide (by rw [HT.out, HY.out]; rfl), by first | rfl | trivial⟩
            case measure => simp [intOf]; omega
      · have HG2 := hide (show b = (fineQ nm ns && allI farV ns) by rw [HG.out, List.take_of_length_le (by have := HNN.out; omega), HFQ.out])
        clear HG
        cases b with
        | false =>
          go_wp2_with fail
          go_ret
          exact ⟨ret_bool (by rw [HV.out, ← HG2.out]; rfl), HBEL.out⟩
        | true =>
          cases hc : colourB co with
          | false =>
            go_wp2_with (go_at_call 76; refine (refColour8_any co _ hs2).mono ?_; rw [hc]; rintro e w2 ⟨rfl, rfl⟩)
            go_ret
            exact ⟨ret_bool (by rw [HV.out, ← HG2.out, hc]; rfl), HBEL.out⟩
          | true =>
            cases hft : (ft == 0) with
            | false =>
              go_wp2_with (go_at_call 76; refine (refColour8_any co _ hs2).mono ?_; rw [hc]; rintro e w2 ⟨rfl, rfl⟩)
              go_ret
              exact ⟨ret_bool (by rw [HV.out, ← HG2.out, hc, hft]; rfl), HBEL.out⟩
            | true =>
              cases hsz : (sz == 0) with
              | false =>
                go_wp2_with (go_at_call 76; refine (refColour8_any co _ hs2).mono ?_; rw [hc]; rintro e w2 ⟨rfl, rfl⟩)
                go_ret
                exact ⟨ret_bool (by rw [HV.out, ← HG2.out, hc, hft, hsz]; rfl), HBEL.out⟩
              | true =>
                go_wp2_with (go_at_call 76; refine (refColour8_any co _ hs2).mono ?_; rw [hc]; rintro e w2 ⟨rfl, rfl⟩)
                go_ret
                exact ⟨ret_bool (by rw [HV.out, ← HG2.out, hc, hft, hsz]; rfl), HBEL.out⟩
  have HV := hide (validB_none kd wd ft sz nm co ns k0 k1 k2 k3 k4 k5 k6)
  go_wp2_with fail
  go_ret
  exact ⟨ret_bool HV.out.symm, HBEL.out⟩
theorem refValid8_out (kd wd ft sz : Int) (nm co : ByteArray) (ns : List Int) (A : Option Addr) (c : Nat) (w : World) (h : wd < -1000000 ∨ 1000000 < wd ∨ ft < 0 ∨ sz < 0) :
    Calls Try.prog 46 #[.agg (BoxT.cells ⟨kd, wd, ft, sz, nm, co, ns⟩ A c).toArray] w fun e w' => e = .returned (.bool (validB ⟨kd, wd, ft, sz, nm, co, ns⟩)) ∧ Below w.heap.size w w' := by
  have HV := hide (show validB ⟨kd, wd, ft, sz, nm, co, ns⟩ = false from by
    unfold validB
    rcases h with h | h | h | h <;> simp [h])
  show Calls Try.prog 46 #[.agg #[.int .i64 kd, .int .i64 wd, .int .i64 ft, .int .i64 sz, .string nm, .string co, .slice A ns.length c]] w _
  generalize ns.length = nn
  by_cases h1 : wd < -1000000
  · go_enter Try.func46, Try.ntmps46
    go_wp2_with fail
    go_ret
    exact ⟨ret_bool HV.out.symm, below_a _⟩
  by_cases h2 : 1000000 < wd
  · go_enter Try.func46, Try.ntmps46
    go_wp2_with fail
    go_ret
    exact ⟨ret_bool HV.out.symm, below_a _⟩
  by_cases h3 : ft < 0
  · go_enter Try.func46, Try.ntmps46
    go_wp2_with fail
    go_ret
    exact ⟨ret_bool HV.out.symm, below_a _⟩
  have h4 : sz < 0 := by omega
  go_enter Try.func46, Try.ntmps46
  go_wp2_with fail
  go_ret
  exact ⟨ret_bool HV.out.symm, below_a _⟩
theorem refValid8 (x : BoxT) (A : Option Addr) (c : Nat) (ok : Nat → Prop) (w : World) (hr : Kind.int.Rd w ok A x.f6.length x.f6) (hn : x.f6.length ≤ 9223372036854775807) (hs : x.f4.size ≤ 9223372036854775807) (hs2 : x.f5.size ≤ 9223372036854775807) :
    Calls Try.prog 46 #[.agg (x.cells A c).toArray] w fun e w' => e = .returned (.bool (validB x)) ∧ Below w.heap.size w w' := by
  obtain ⟨kd, wd, ft, sz, nm, co, ns⟩ := x
  by_cases h : wd < -1000000 ∨ 1000000 < wd ∨ ft < 0 ∨ sz < 0
  · exact refValid8_out kd wd ft sz nm co ns A c w h
  · exact refValid8_any kd wd ft sz nm co ns A c w (hr.weaken fun _ _ => trivial) hn hs hs2 (by omega) (by omega) (by omega) (by omega)
end Go.Proofs.Ytekkjieoikgpmaa
