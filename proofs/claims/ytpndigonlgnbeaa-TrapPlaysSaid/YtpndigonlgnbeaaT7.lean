/- slices.symMergeCmpFunc at traps: one element on the right. -/
import Derived.Test.YtpndigonlgnbeaaT6
set_option linter.unusedVariables false
set_option linter.unusedSimpArgs false
namespace Go.Proofs.Ytpndigonlgnbeaa
open Go.RowKit
set_option maxHeartbeats 1600000
set_option maxRecDepth 1000000

theorem symMerge2_trap (g0 c n a mid b : Nat) (ai mi bi : Int) (m pre U post : List TrapT) (y : TrapT) (w : World) (hn : n ≤ 1000000000000) (hR : trapK.RowAt 33 w (fun _ => False) g0 c m) (e1 : n = m.length)
    (hm : m = pre ++ (U ++ (y :: post))) (ha : a = pre.length) (hmid : mid = a + U.length) (hb : b = mid + 1) (hU : TS.Sorted TK U) (hU2 : 2 ≤ U.length) (e2 : ai = a) (e3 : mi = mid) (e4 : bi = b) :
    Calls Try.prog 61 #[.slice (some ⟨g0, 0, none⟩) n c, .int .i64 ai, .int .i64 mi, .int .i64 bi, .func (.func 28) #[] #[]] w fun e w' => e = .returned (.tuple #[]) ∧ trapK.RowAt 33 w' (fun _ => False) g0 c (pre ++ (TS.mrg TK U [y] ++ post)) ∧ Kept (fun i => i = g0) w w' := by
  subst e2 e3 e4
  have hlen : n = pre.length + U.length + (1 + post.length) := by rw [e1, hm]; simp; omega
  have hb1 : b ≤ n := by omega
  have hm1 : mid < b := by omega
  have ha1 : a ≤ mid := by omega
  have hbm : b ≤ mid + 1 := by omega
  have hd0 : (((mid : Int) - (a : Int)) == 1) = false := beq_eq_false_iff_ne.2 (by omega)
  have hd : (((b : Int) - (mid : Int)) == 1) = true := beq_iff_eq.2 (by omega)
  have HR := hide hR
  have HM := hide hm
  have HA := hide ha
  have HMID := hide hmid
  have E1 := hide e1
  have HLEN := hide hlen
  have HU := hide hU
  clear hR hm ha hmid hb e1 hlen hU hU2
  go_enter Try.func61, Try.ntmps61
  go_wp2
  go_loopw [14, 15] (fun ti tj wr => ∃ (i j : Nat), ti = .int .i64 i ∧ tj = .int .i64 j ∧ a ≤ i ∧ i ≤ j ∧ j ≤ mid ∧ Hid ((∀ k z, U[k]? = some z → a + k + 1 = i → z.at_ ≤ y.at_) ∧ ∀ k z, U[k]? = some z → a + k = j → y.at_ < z.at_) ∧
      Hid (Below w.heap.size w wr)) (fun ti tj _ => (intOf tj).toNat - (intOf ti).toNat)
  case atStart => exact ⟨a, mid, rfl, rfl, Nat.le_refl _, ha1, Nat.le_refl _, ⟨fun k z hk h => by omega, fun k z hk h => by have := (List.getElem?_eq_some_iff.1 hk).1; have := HMID.out; omega⟩, Below.refl _ _⟩
  case round =>
    obtain ⟨i, j, rfl, rfl, hi, hij, hj, HH, HK⟩ := hrel
    by_cases hlt : i < j
    · obtain ⟨h, hh⟩ : ∃ h, h = (i + j) / 2 := ⟨_, rfl⟩
      have hh1 : i ≤ h := by omega
      have hh2 : h < j := by omega
      have eh : ((i : Int) + (j : Int)) / 2 = (h : Int) := by omega
      have EH := hide eh
      clear hh eh
      obtain ⟨z, hz⟩ : ∃ z, U[h - a]? = some z := ⟨_, List.getElem?_eq_getElem (by have := HMID.out; omega)⟩
      have hq := HR.out.below HK.out
      rw [HM.out] at hq
      have hz' : (pre ++ (U ++ (y :: post)))[h]? = some z := at_get pre _ h (h - a) z (by rw [List.getElem?_append_left (List.getElem?_eq_some_iff.1 hz).1, hz]) (by have := HA.out; omega)
      have hy' : (pre ++ (U ++ (y :: post)))[mid]? = some y := at_get pre _ mid U.length y (by rw [List.getElem?_append_right (by omega), Nat.sub_self]; rfl) (by have := HA.out; have := HMID.out; omega)
      obtain ⟨y0, y1, -, -⟩ := row_facts hq hy'
      obtain ⟨z0, z1, -, -⟩ := row_facts hq hz'
      have X0 := cell_after y0
      have X1 := cell_after y1
      have Z0 := cell_after z0
      have Z1 := cell_after z1
      have HZ := hide hz
      clear y0 y1 z0 z1 hz hz' hy' hq
      go_wp2_with fail
      rw [EH.out]
      have jz1 : (h : Int) < (n : Int) := by omega
      have jz2 : (mid : Int) < (n : Int) := by omega
      refine wp_region_after (by kernel_rfl) (by kernel_rfl) ?_
      repeat (go_big_quiet_step ((go_at_call 28; exact calls_after (cmp_any _ _ _))))
      refine wpQuiet_nil ?_
      intro _ hw'
      obtain ⟨q, rfl⟩ := hw'
      have HQ := hide q.h
      clear X0 X1 Z0 Z1
      generalize q.W = wq at HQ ⊢
      by_cases hlv : y.at_ < z.at_
      · have hc : cmpI y.at_ z.at_ < 0 := cmpI_lt.2 hlv
        rw [show (!decide (cmpI y.at_ z.at_ < 0)) = false from by simp [hc]]
        go_wp2_with fail
        go_roundw
        case rel =>
          refine ⟨i, h, rfl, rfl, by omega, by omega, by omega, ⟨HH.out.1, fun k x hk e => ?_⟩, below_self HK.out HQ.out⟩
          have : k = h - a := by omega
          subst this
          have := hk.symm.trans HZ.out
          injection this with this
          subst this
          exact hlv
        case measure => simp [intOf]; omega
      · have hc : ¬ cmpI y.at_ z.at_ < 0 := fun h => hlv (cmpI_lt.1 h)
        rw [show (!decide (cmpI y.at_ z.at_ < 0)) = true from by simp [hc]]
        go_wp2_with fail
        go_roundw
        case rel =>
          refine ⟨h + 1, j, by go_num, rfl, by omega, by omega, hj, ⟨fun k x hk e => ?_, HH.out.2⟩, below_self HK.out HQ.out⟩
          have : k = h - a := by omega
          subst this
          have := hk.symm.trans HZ.out
          injection this with this
          subst this
          omega
        case measure => simp [intOf]; omega
    · have hij2 : i = j := by omega
      subst hij2
      have hrow := HR.out.below HK.out
      rw [HM.out] at hrow
      have HROW := hide hrow
      obtain ⟨U1, U2, hUU, hl1, hlt1, hlt2⟩ := sorted_parts HU.out (i - a) (y.at_ + 1) (by have := HMID.out; omega) (fun k z hz hk => by have := HH.out.1 k z hz (by omega); omega) (fun k z hz hk => by have := HH.out.2 k z hz (by omega); omega)
      have hl2 : U2.length = mid - i := by have h := congrArg List.length hUU; rw [List.length_append] at h; have := HMID.out; omega
      have HL1 := hide hl1
      have HL2 := hide hl2
      have HUU := hide hUU
      have H1 := hide hlt1
      have H2 := hide hlt2
      clear hrow hUU hl1 hl2 hlt1 hlt2
      go_wp2
      go_loopw [17] (fun tk wi => ∃ (k : Nat), tk = .int .i64 k ∧ i ≤ k ∧ k ≤ mid ∧ Hid (trapK.RowAt 33 wi (fun _ => False) g0 c (pre ++ (U1 ++ (U2.take (k - i) ++ (y :: (U2.drop (k - i) ++ post)))))) ∧ Hid (Kept (fun i => i = g0) w wi)) (fun tk _ => (intOf tk).toNat)
      case atStart => exact ⟨mid, rfl, by omega, Nat.le_refl _, by
        show trapK.RowAt _ _ _ _ _ _
        have h := HROW.out
        rw [HUU.out] at h
        rw [List.take_of_length_le (by have := HL2.out; omega), List.drop_eq_nil_of_le (by have := HL2.out; omega)]
        simpa using h, Kept.of_below HK.out⟩
      case round =>
        obtain ⟨k, rfl, hik, hkm, HRW, HKW⟩ := hrel
        by_cases hlt : i < k
        · obtain ⟨kp, rfl⟩ : ∃ kp, k = kp + 1 := ⟨k - 1, by omega⟩
          obtain ⟨x, hx⟩ : ∃ x, U2[kp - i]? = some x := ⟨_, List.getElem?_eq_getElem (by have := HL2.out; omega)⟩
          have htk : U2.take (kp + 1 - i) = U2.take (kp - i) ++ [x] := by
            obtain ⟨h1, h2⟩ := List.getElem?_eq_some_iff.1 hx
            rw [show kp + 1 - i = kp - i + 1 from by omega, List.take_succ_eq_append_getElem h1, h2]
          have hlen : (U1 ++ U2.take (kp - i)).length = kp - a := by rw [List.length_append, List.length_take]; have := HL1.out; have := HL2.out; omega
          have hq := HRW.out
          rw [htk] at hq
          have hq2 : trapK.RowAt 33 wr (fun _ => False) g0 c (pre ++ (((U1 ++ U2.take (kp - i)) ++ [x]) ++ (y :: (U2.drop (kp + 1 - i) ++ post)))) := by simpa using hq
          have hx' := at_get pre (((U1 ++ U2.take (kp - i)) ++ [x]) ++ (y :: (U2.drop (kp + 1 - i) ++ post))) kp (kp - a) x (by rw [List.append_assoc, List.getElem?_append_right (by omega), hlen, Nat.sub_self]; rfl) (by have := HA.out; omega)
          have hy' := at_get pre (((U1 ++ U2.take (kp - i)) ++ [x]) ++ (y :: (U2.drop (kp + 1 - i) ++ post))) (kp + 1) (kp + 1 - a) y (by rw [List.getElem?_append_right (by rw [List.length_append, hlen, List.length_singleton]; omega), List.length_append, hlen, List.length_singleton, show kp + 1 - a - (kp - a + 1) = 0 from by omega]; rfl) (by have := HA.out; omega)
          obtain ⟨x0, x1, f0, f1⟩ := row_facts hq2 hx'
          obtain ⟨y0, y1, f2, f3⟩ := row_facts hq2 hy'
          have HX := hide hx'
          have HY := hide hy'
          have HQ := hide hq2
          have HX0 := hide hx
          have HLN := hide hlen
          clear hx' hy' hq hq2 hx hlen htk
          go_wp2
          go_region
          go_wp2
          go_roundw
          case rel =>
            refine ⟨kp, rfl, by omega, by omega, ?_, kept_swap HKW.out⟩
            have h := row_swap (i := kp + 1) (j := kp) (x := y) (y := x) HQ.out (List.getElem?_eq_some_iff.1 HY.out).1 (List.getElem?_eq_some_iff.1 HX.out).1
            rw [swp2_near pre (U1 ++ U2.take (kp - i)) (U2.drop (kp + 1 - i) ++ post) x y kp (by have := HA.out; have := HLN.out; omega)] at h
            show trapK.RowAt _ _ _ _ _ _
            obtain ⟨h3, h4⟩ := List.getElem?_eq_some_iff.1 HX0.out
            rw [List.drop_eq_getElem_cons h3, h4, show kp - i + 1 = kp + 1 - i from by omega]
            simp only [List.append_assoc, List.cons_append] at h ⊢
            exact h
          case measure => simp [intOf]
        · have e : k - i = 0 := by omega
          have h := HRW.out
          rw [e, List.take_zero, List.drop_zero] at h
          have HF := hide h
          clear e h
          go_wp2
          refine bodyPost_ret (results_none rfl _ _ _) rfl ?_
          refine ⟨rfl, ?_, HKW.out⟩
          have e : TS.mrg TK U [y] = U1 ++ y :: U2 := by
            show TS.ins TK U y = _
            rw [HUU.out]
            exact TS.ins_at (fun z hz => by have : z.at_ < y.at_ + 1 := H1.out z hz; show z.at_ ≤ y.at_; omega) (fun z hz => by have : y.at_ + 1 ≤ z.at_ := H2.out z hz; show y.at_ < z.at_; omega)
          rw [e]
          simpa using HF.out
end Go.Proofs.Ytpndigonlgnbeaa
