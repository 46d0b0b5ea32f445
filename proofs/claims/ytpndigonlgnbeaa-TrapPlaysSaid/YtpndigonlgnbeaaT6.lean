/- slices.symMergeCmpFunc at traps: one element on the left. -/
import Derived.Test.YtpndigonlgnbeaaT5
set_option linter.unusedVariables false
set_option linter.unusedSimpArgs false
namespace Go.Proofs.Ytpndigonlgnbeaa
open Go.RowKit
set_option maxHeartbeats 1600000
set_option maxRecDepth 1000000

theorem at_get {α : Type} (pre Z : List α) (i j : Nat) (x : α) (h : Z[j]? = some x) (hi : i = pre.length + j) : (pre ++ Z)[i]? = some x := by
  subst hi
  rw [List.getElem?_append_right (by omega), Nat.add_sub_cancel_left, h]

/-- A sorted list, cut at k by a number. -/
theorem sorted_parts {V : List TrapT} (hV : TS.Sorted TK V) (k : Nat) (t : Int) (hk : k ≤ V.length) (h1 : ∀ i z, V[i]? = some z → i + 1 = k → z.at_ < t) (h2 : ∀ i z, V[i]? = some z → i = k → t ≤ z.at_) :
    ∃ V1 V2, V = V1 ++ V2 ∧ V1.length = k ∧ (∀ z ∈ V1, z.at_ < t) ∧ ∀ z ∈ V2, t ≤ z.at_ := by
  refine ⟨V.take k, V.drop k, (List.take_append_drop k V).symm, by rw [List.length_take]; omega, fun z hz => ?_, fun z hz => ?_⟩
  · obtain ⟨i, hi, rfl⟩ := List.mem_iff_getElem.1 hz
    rw [List.length_take] at hi
    rw [List.getElem_take]
    rcases Nat.lt_or_ge (i + 1) k with hlt | hge
    · have h3 := h1 (k - 1) V[k - 1] (List.getElem?_eq_getElem (by omega)) (by omega)
      have h4 : V[i].at_ ≤ V[k - 1].at_ := List.pairwise_iff_getElem.1 hV i (k - 1) (by omega) (by omega) (by omega)
      omega
    · exact h1 i _ (List.getElem?_eq_getElem (by omega)) (by omega)
  · obtain ⟨i, hi, rfl⟩ := List.mem_iff_getElem.1 hz
    rw [List.length_drop] at hi
    rw [List.getElem_drop]
    have h3 := h2 k V[k] (List.getElem?_eq_getElem (by omega)) rfl
    rcases Nat.eq_zero_or_pos i with h0 | h0
    · subst h0
      exact h3
    · have h4 : V[k].at_ ≤ V[k + i].at_ := List.pairwise_iff_getElem.1 hV k (k + i) (by omega) (by omega) (by omega)
      omega
theorem swp2_near' {α : Type} (pre s0 Z : List α) (x y : α) (k : Nat) (hk : k = pre.length + s0.length) : swp2 (pre ++ (s0 ++ (x :: (y :: Z)))) k (k + 1) x y = pre ++ (s0 ++ (y :: (x :: Z))) := by
  subst hk
  have h1 : (pre ++ (s0 ++ (x :: (y :: Z)))).set (pre.length + s0.length) y = pre ++ (s0 ++ (y :: (y :: Z))) := by
    rw [List.set_append_right _ _ (by omega), List.set_append_right _ _ (by omega), show pre.length + s0.length - pre.length - s0.length = 0 from by omega]
    rfl
  unfold swp2
  rw [h1, List.set_append_right _ _ (by omega), List.set_append_right _ _ (by omega), show pre.length + s0.length + 1 - pre.length - s0.length = 1 from by omega]
  rfl

theorem symMerge1_trap (g0 c n a mid b : Nat) (ai mi bi : Int) (m pre V post : List TrapT) (x : TrapT) (w : World) (hn : n ≤ 1000000000000) (hR : trapK.RowAt 33 w (fun _ => False) g0 c m) (e1 : n = m.length)
    (hm : m = pre ++ (x :: (V ++ post))) (ha : a = pre.length) (hmid : mid = a + 1) (hb : b = mid + V.length) (hV : TS.Sorted TK V) (e2 : ai = a) (e3 : mi = mid) (e4 : bi = b) :
    Calls Try.prog 61 #[.slice (some ⟨g0, 0, none⟩) n c, .int .i64 ai, .int .i64 mi, .int .i64 bi, .func (.func 28) #[] #[]] w fun e w' => e = .returned (.tuple #[]) ∧ trapK.RowAt 33 w' (fun _ => False) g0 c (pre ++ (TS.mrg TK [x] V ++ post)) ∧ Kept (fun i => i = g0) w w' := by
  subst e2 e3 e4
  have hlen : n = pre.length + 1 + (V.length + post.length) := by rw [e1, hm]; simp; omega
  have hb1 : b ≤ n := by omega
  have hm1 : mid ≤ b := by omega
  have ha1 : a < mid := by omega
  have ha2 : mid ≤ a + 1 := by omega
  have hd : (((mid : Int) - (a : Int)) == 1) = true := beq_iff_eq.2 (by omega)
  have HR := hide hR
  have HM := hide hm
  have HA := hide ha
  have HMID := hide hmid
  have HB := hide hb
  have E1 := hide e1
  have HLEN := hide hlen
  have HV := hide hV
  clear hR hm ha hmid hb e1 hlen hV
  go_enter Try.func61, Try.ntmps61
  go_wp2
  go_loopw [10, 11] (fun ti tj wr => ∃ (i j : Nat), ti = .int .i64 i ∧ tj = .int .i64 j ∧ mid ≤ i ∧ i ≤ j ∧ j ≤ b ∧ Hid ((∀ k z, V[k]? = some z → mid + k + 1 = i → z.at_ < x.at_) ∧ ∀ k z, V[k]? = some z → mid + k = j → x.at_ ≤ z.at_) ∧
      Hid (Below w.heap.size w wr)) (fun ti tj _ => (intOf tj).toNat - (intOf ti).toNat)
  case atStart => exact ⟨mid, b, rfl, rfl, Nat.le_refl _, hm1, Nat.le_refl _, ⟨fun k z hk h => by omega, fun k z hk h => by have := (List.getElem?_eq_some_iff.1 hk).1; have := HB.out; omega⟩, Below.refl _ _⟩
  case round =>
    obtain ⟨i, j, rfl, rfl, hi, hij, hj, HH, HK⟩ := hrel
    by_cases hlt : i < j
    · obtain ⟨h, hh⟩ : ∃ h, h = (i + j) / 2 := ⟨_, rfl⟩
      have hh1 : i ≤ h := by omega
      have hh2 : h < j := by omega
      have eh : ((i : Int) + (j : Int)) / 2 = (h : Int) := by omega
      have EH := hide eh
      clear hh eh
      obtain ⟨z, hz⟩ : ∃ z, V[h - mid]? = some z := ⟨_, List.getElem?_eq_getElem (by have := HB.out; omega)⟩
      have hq := HR.out.below HK.out
      rw [HM.out] at hq
      have hz' : (pre ++ (x :: (V ++ post)))[h]? = some z := at_get pre _ h (h - mid + 1) z (by rw [List.getElem?_cons_succ, List.getElem?_append_left (List.getElem?_eq_some_iff.1 hz).1, hz]) (by have := HA.out; have := HMID.out; omega)
      have hx' : (pre ++ (x :: (V ++ post)))[a]? = some x := at_get pre _ a 0 x rfl (by have := HA.out; omega)
      obtain ⟨x0, x1, -, -⟩ := row_facts hq hx'
      obtain ⟨z0, z1, -, -⟩ := row_facts hq hz'
      have X0 := cell_after x0
      have X1 := cell_after x1
      have Z0 := cell_after z0
      have Z1 := cell_after z1
      have HZ := hide hz
      clear x0 x1 z0 z1 hz hz' hx' hq
      go_wp2_with fail
      rw [EH.out]
      have jz1 : (h : Int) < (n : Int) := by omega
      have jz2 : (a : Int) < (n : Int) := by omega
      refine wp_region_after (by kernel_rfl) (by kernel_rfl) ?_
      repeat (go_big_quiet_step ((go_at_call 28; exact calls_after (cmp_any _ _ _))))
      refine wpQuiet_nil ?_
      intro _ hw'
      obtain ⟨q, rfl⟩ := hw'
      have HQ := hide q.h
      clear X0 X1 Z0 Z1
      generalize q.W = wq at HQ ⊢
      by_cases hlv : z.at_ < x.at_
      · have hc : cmpI z.at_ x.at_ < 0 := cmpI_lt.2 hlv
        go_wp2_with fail
        go_roundw
        case rel =>
          refine ⟨h + 1, j, by go_num, rfl, by omega, by omega, hj, ⟨fun k y hk e => ?_, HH.out.2⟩, below_self HK.out HQ.out⟩
          have : k = h - mid := by omega
          subst this
          have := hk.symm.trans HZ.out
          injection this with this
          subst this
          exact hlv
        case measure => simp [intOf]; omega
      · have hc : ¬ cmpI z.at_ x.at_ < 0 := fun h => hlv (cmpI_lt.1 h)
        go_wp2_with fail
        go_roundw
        case rel =>
          refine ⟨i, h, rfl, rfl, by omega, by omega, by omega, ⟨HH.out.1, fun k y hk e => ?_⟩, below_self HK.out HQ.out⟩
          have : k = h - mid := by omega
          subst this
          have := hk.symm.trans HZ.out
          injection this with this
          subst this
          omega
        case measure => simp [intOf]; omega
    · have hij2 : i = j := by omega
      subst hij2
      have hrow := HR.out.below HK.out
      rw [HM.out] at hrow
      have HROW := hide hrow
      obtain ⟨V1, V2, hVV, hl1, hlt1, hlt2⟩ := sorted_parts HV.out (i - mid) x.at_ (by have := HB.out; omega) (fun k z hz hk => HH.out.1 k z hz (by omega)) (fun k z hz hk => HH.out.2 k z hz (by omega))
      have HL1 := hide hl1
      have HVV := hide hVV
      have H1 := hide hlt1
      have H2 := hide hlt2
      clear hrow hVV hl1 hlt1 hlt2
      go_wp2
      go_loopw [13] (fun tk wi => ∃ (k : Nat), tk = .int .i64 k ∧ a ≤ k ∧ k ≤ i - 1 ∧ Hid (trapK.RowAt 33 wi (fun _ => False) g0 c (pre ++ (V1.take (k - a) ++ (x :: (V1.drop (k - a) ++ (V2 ++ post)))))) ∧ Hid (Kept (fun i => i = g0) w wi)) (fun tk _ => i - (intOf tk).toNat)
      case atStart => exact ⟨a, rfl, Nat.le_refl _, by omega, by
        show trapK.RowAt _ _ _ _ _ _
        have h := HROW.out
        rw [HVV.out] at h
        simpa using h, Kept.of_below HK.out⟩
      case round =>
        obtain ⟨k, rfl, hak, hki, HRW, HKW⟩ := hrel
        by_cases hlt : k < i - 1
        · obtain ⟨y, hy⟩ : ∃ y, V1[k - a]? = some y := ⟨_, List.getElem?_eq_getElem (by have := HL1.out; omega)⟩
          have hdr : V1.drop (k - a) = y :: V1.drop (k - a + 1) := by
            obtain ⟨h1, h2⟩ := List.getElem?_eq_some_iff.1 hy
            rw [List.drop_eq_getElem_cons h1, h2]
          have hlen : (V1.take (k - a)).length = k - a := by rw [List.length_take]; have := HL1.out; omega
          have hq := HRW.out
          rw [hdr] at hq
          have hx' := at_get pre (V1.take (k - a) ++ (x :: (y :: V1.drop (k - a + 1) ++ (V2 ++ post)))) k (k - a) x (by rw [List.getElem?_append_right (by omega), hlen, Nat.sub_self]; rfl) (by have := HA.out; omega)
          have hy' := at_get pre (V1.take (k - a) ++ (x :: (y :: V1.drop (k - a + 1) ++ (V2 ++ post)))) (k + 1) (k - a + 1) y (by rw [List.getElem?_append_right (by omega), hlen, show k - a + 1 - (k - a) = 1 from by omega]; rfl) (by have := HA.out; omega)
          obtain ⟨x0, x1, f0, f1⟩ := row_facts hq hx'
          obtain ⟨y0, y1, f2, f3⟩ := row_facts hq hy'
          have HX := hide hx'
          have HY := hide hy'
          have HQ := hide hq
          have HY0 := hide hy
          have HLN := hide hlen
          clear hx' hy' hq hy hlen hdr
          go_wp2
          go_region
          go_wp2
          go_roundw
          case rel =>
            refine ⟨k + 1, by go_num, by omega, by omega, ?_, kept_swap HKW.out⟩
            have h := row_swap (i := k) (j := k + 1) (x := x) (y := y) HQ.out (List.getElem?_eq_some_iff.1 HX.out).1 (List.getElem?_eq_some_iff.1 HY.out).1
            have e : swp2 (pre ++ (V1.take (k - a) ++ (x :: (y :: V1.drop (k - a + 1) ++ (V2 ++ post))))) k (k + 1) x y = pre ++ (V1.take (k + 1 - a) ++ (x :: (V1.drop (k + 1 - a) ++ (V2 ++ post)))) := by
              have h2 := swp2_near' pre (V1.take (k - a)) (V1.drop (k - a + 1) ++ (V2 ++ post)) x y k (by have := HA.out; have := HLN.out; omega)
              rw [show k + 1 - a = k - a + 1 from by omega]
              obtain ⟨h3, h4⟩ := List.getElem?_eq_some_iff.1 HY0.out
              rw [List.take_succ_eq_append_getElem h3, h4]
              simpa using h2
            rw [e] at h
            exact h
          case measure => simp [intOf]; omega
        · have e : k - a = V1.length := by have := HL1.out; omega
          have h := HRW.out
          rw [e, List.take_length, List.drop_length] at h
          have HF := hide h
          clear e h
          go_wp2
          refine bodyPost_ret (results_none rfl _ _ _) rfl ?_
          refine ⟨rfl, ?_, HKW.out⟩
          have hs : TS.Sorted TK (V1 ++ V2) := by rw [← HVV.out]; exact HV.out
          have e : TS.mrg TK [x] V = V1 ++ (x :: V2) := by
            rw [HVV.out]
            have := TS.mrg_split (U1 := []) (U2 := [x]) (V1 := V1) (V2 := V2) (key := TK) hs (by simp) (fun y hy z hz => by rw [List.mem_singleton.1 hz]; exact H1.out y hy)
            rw [List.nil_append] at this
            rw [this, TS.mrg_nil (List.pairwise_append.1 hs).1]
            congr 1
            have h2 := TS.mrg_le (key := TK) (W := [x]) (Z := []) (v := V2) (fun z hz y hy => by rw [List.mem_singleton.1 hz]; exact H2.out y hy)
            rw [List.append_nil] at h2
            rw [h2, TS.mrg_nil (List.pairwise_append.1 hs).2.1]
            rfl
          rw [e]
          simpa using HF.out
end Go.Proofs.Ytpndigonlgnbeaa
