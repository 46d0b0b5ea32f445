/- slices.stableCmpFunc at traps. -/
import Derived.Test.YtpndigonlgnbeaaT8
import Derived.Test.YtpndigonlgnbeaaTSort2
set_option linter.unusedVariables false
set_option linter.unusedSimpArgs false
namespace Go.Proofs.Ytpndigonlgnbeaa
open Go.RowKit
set_option maxHeartbeats 3200000
set_option maxRecDepth 1000000

theorem stable_trap (g0 c n : Nat) (ni : Int) (m : List TrapT) (w : World) (hn : n ≤ 1000000000000) (hR : trapK.RowAt 33 w (fun _ => False) g0 c m) (e1 : n = m.length) (e2 : ni = n) :
    Calls Try.prog 50 #[.slice (some ⟨g0, 0, none⟩) n c, .int .i64 ni, .func (.func 28) #[] #[]] w fun e w' => e = .returned (.tuple #[]) ∧ trapK.RowAt 33 w' (fun _ => False) g0 c (TS.isort TK m) ∧ Kept (fun i => i = g0) w w' := by
  subst e2
  have HR := hide hR
  have E1 := hide e1
  clear hR e1
  go_enter Try.func50, Try.ntmps50
  go_wp2_with fail
  go_loopw [7, 8] (fun t7 t8 wr => ∃ (a b i : Nat) (q : List TrapT), t7 = .int .i64 a ∧ t8 = .int .i64 b ∧ b = a + 20 ∧ a ≤ n ∧ Hid (a = i * 20) ∧ Hid (TS.Inv0 TK q m 20 i) ∧
      Hid (trapK.RowAt 33 wr (fun _ => False) g0 c q) ∧ Hid (Kept (fun i => i = g0) w wr)) (fun _ t8 _ => (n + 21) - (intOf t8).toNat)
  case atStart => exact ⟨0, 20, 0, m, rfl, rfl, rfl, Nat.zero_le _, hide rfl, hide (TS.Inv0.first _ _), HR, hide (Kept.refl _ _)⟩
  case round =>
    obtain ⟨a, b, i, q, rfl, rfl, hb, ha, HA, HI, HQ, HK⟩ := hrel
    have HB := hide hb
    have hb1 : b ≤ a + 20 := by omega
    have hb2 : a + 20 ≤ b := by omega
    clear hb
    have hql : q.length = n := by rw [HI.out.1]; exact E1.out.symm
    have HQL := hide hql
    clear hql
    by_cases hbn : b ≤ n
    · have hl : (TS.seg q a 20).length = 20 := by rw [TS.seg_length, HQL.out]; omega
      have hst := HI.out.step HA.out (by rw [HQL.out]; exact ha) (show b = a + (TS.seg q a 20).length by rw [hl]; exact HB.out)
      have HST1 := hide hst.1
      have HST2 := hide hst.2
      have HL := hide hl
      clear hst hl
      go_wp2_with (go_at_call 60
                   refine (insertion_trap g0 c n a b _ _ q (q.take a) (TS.seg q a 20) (q.drop b) _ hn HQ.out HQL.out.symm HST1.out (by rw [List.length_take, HQL.out]; omega) (by rw [HL.out]; exact HB.out) rfl rfl).mono ?_
                   rintro e w' ⟨rfl, q1, q2⟩
                   have Q1 := hide q1
                   have Q2 := hide (HK.out.trans q2 (fun _ _ h => h) (fun _ _ h => h))
                   clear q1 q2)
      go_roundw
      case rel => exact ⟨b, b + 20, i + 1, _, rfl, by go_num, rfl, hbn, hide (by have := HA.out; omega), HST2, Q1, Q2⟩
      case measure => simp [intOf]; omega
    · have hst := HI.out.step HA.out (by rw [HQL.out]; exact ha) (show n = a + (TS.seg q a 20).length by rw [TS.seg_length, HQL.out]; omega)
      have hl : n = a + (TS.seg q a 20).length := by rw [TS.seg_length, HQL.out]; omega
      have HST1 := hide hst.1
      have hfin := hst.2.last (by rw [hst.2.1]; have := E1.out; have := HA.out; omega)
      have HF := hide hfin
      have HL := hide hl
      clear hst hl hfin
      generalize hq1 : List.take a q ++ (TS.isort TK (TS.seg q a 20) ++ List.drop n q) = q1 at HF
      have HQ1 := hide hq1
      clear hq1
      go_wp2_with (go_at_call 60
                   refine (insertion_trap g0 c n a n _ _ q (q.take a) (TS.seg q a 20) (q.drop n) _ hn HQ.out HQL.out.symm HST1.out (by rw [List.length_take, HQL.out]; omega) HL.out rfl rfl).mono ?_
                   rintro e w' ⟨rfl, q1, q2⟩
                   rw [HQ1.out] at q1
                   have Q1 := hide q1
                   have Q2 := hide (HK.out.trans q2 (fun _ _ h => h) (fun _ _ h => h))
                   clear q1 q2)
      clear HST1 HL HQ1 HI HQ HK HQL HA
      go_loopw [6, 7, 8, 9] (fun t6 _ _ _ wr => ∃ (k : Nat) (q : List TrapT), t6 = .int .i64 k ∧ 20 ≤ k ∧ k ≤ 2 * n + 20 ∧ Hid (TS.Inv1 TK q m k) ∧
          Hid (trapK.RowAt 33 wr (fun _ => False) g0 c q) ∧ Hid (Kept (fun i => i = g0) w wr)) (fun t6 _ _ _ _ => n - (intOf t6).toNat)
      case atStart => exact ⟨20, q1, rfl, Nat.le_refl _, by omega, HF, Q1, Q2⟩
      case round =>
        clear HF Q1 Q2
        obtain ⟨k, q, rfl, hk1, hk2, HI, HQ, HK⟩ := hrel
        rename_i wr0 _
        by_cases hkn : k < n
        · go_wp2_with fail
          go_loopw [7, 8] (fun t7 t8 wr => ∃ (a b i : Nat) (q : List TrapT), t7 = .int .i64 a ∧ t8 = .int .i64 b ∧ Hid (b = a + 2 * k) ∧ b ≤ a + 2 * k ∧ a + 2 * k ≤ b ∧ a ≤ n ∧ Hid (a = i * (2 * k)) ∧ Hid (TS.Inv2 TK q m k i) ∧
            Hid (trapK.RowAt 33 wr (fun _ => False) g0 c q) ∧ Hid (Kept (fun i => i = g0) w wr)) (fun _ t8 _ => (n + 2 * k + 1) - (intOf t8).toNat)
          case atStart => exact ⟨0, 2 * k, 0, q, rfl, by go_num, hide (by omega), by omega, by omega, Nat.zero_le _, hide (Nat.zero_mul _).symm, hide HI.out.first, HQ, HK⟩
          case round =>
            clear HI HQ HK
            obtain ⟨a, b, i, q, rfl, rfl, HB, hb1, hb2, ha, HA, HI, HQ, HK⟩ := hrel
            have hql : q.length = n := by rw [HI.out.1]; exact E1.out.symm
            have HQL := hide hql
            clear hql
            by_cases hbn : b ≤ n
            · obtain ⟨mid, hmid⟩ : ∃ mid, mid = a + k := ⟨_, rfl⟩
              have emid : (a : Int) + (k : Int) = (mid : Int) := by omega
              have hm1 : mid ≤ a + k := by omega
              have hm2 : a + k ≤ mid := by omega
              have hl : (TS.seg q mid k).length = k := by rw [TS.seg_length, HQL.out]; omega
              have hst := HI.out.step HA.out (by rw [HQL.out]; omega) (show b = a + k + (TS.seg q (a + k) k).length by rw [← hmid, hl]; omega)
              rw [← hmid] at hst
              have HST1 := hide hst.1
              have HU := hide hst.2.1
              have SU := hide hst.2.2.1
              have SV := hide hst.2.2.2.1
              have HST2 := hide hst.2.2.2.2
              have HL := hide hl
              have HM := hide hmid
              have EM := hide emid
              clear hst hl hmid emid
              go_wp2_with (go_at_call 61
                           refine (symMerge_trap (k + k) g0 c n a mid b _ _ _ q (q.take a) (TS.seg q a k) (TS.seg q mid k) (q.drop b) _ hn HQ.out HQL.out.symm HST1.out (by rw [List.length_take, HQL.out]; omega) (by rw [HU.out]; exact HM.out) (by rw [HL.out]; omega) SU.out SV.out (by rw [HU.out]; omega) (by rw [HL.out]; omega) (by rw [HU.out, HL.out]; omega) rfl (by omega) rfl).mono ?_
                           rintro e w' ⟨rfl, q1, q2⟩
                           have Q1 := hide q1
                           have Q2 := hide (HK.out.trans q2 (fun _ _ h => h) (fun _ _ h => h))
                           clear q1 q2)
              go_roundw
              case rel => exact ⟨b, b + 2 * k, i + 1, _, rfl, by go_num, hide rfl, by omega, by omega, hbn, hide (by have := HA.out; have := HB.out; rw [Nat.add_mul]; omega), HST2, Q1, Q2⟩
              case measure => simp [intOf]; omega
            · obtain ⟨mid, hmid⟩ : ∃ mid, mid = a + k := ⟨_, rfl⟩
              have emid : (a : Int) + (k : Int) = (mid : Int) := by omega
              have hm1 : mid ≤ a + k := by omega
              have hm2 : a + k ≤ mid := by omega
              have HM := hide hmid
              have EM := hide emid
              by_cases hmn : mid < n
              · have hl : (TS.seg q mid k).length = n - mid := by rw [TS.seg_length, HQL.out]; omega
                have hst := HI.out.step HA.out (by rw [HQL.out]; omega) (show n = a + k + (TS.seg q (a + k) k).length by rw [← hmid, hl]; omega)
                rw [← hmid] at hst
                have HST1 := hide hst.1
                have HU := hide hst.2.1
                have SU := hide hst.2.2.1
                have SV := hide hst.2.2.2.1
                have hfin := hst.2.2.2.2.last (by rw [hst.2.2.2.2.1]; have := E1.out; have := HA.out; rw [Nat.add_mul]; omega)
                have HF := hide hfin
                have HL := hide hl
                clear hst hl hmid emid hfin
                generalize hq1 : List.take a q ++ (TS.mrg TK (TS.seg q a k) (TS.seg q mid k) ++ List.drop n q) = q1 at HF
                have HQ1 := hide hq1
                clear hq1
                go_wp2_with (go_at_call 61
                             refine (symMerge_trap (k + k) g0 c n a mid n _ _ _ q (q.take a) (TS.seg q a k) (TS.seg q mid k) (q.drop n) _ hn HQ.out HQL.out.symm HST1.out (by rw [List.length_take, HQL.out]; omega) (by rw [HU.out]; exact HM.out) (by rw [HL.out]; omega) SU.out SV.out (by rw [HU.out]; omega) (by rw [HL.out]; omega) (by rw [HU.out, HL.out]; omega) rfl (by omega) rfl).mono ?_
                             rintro e w' ⟨rfl, q1, q2⟩
                             rw [HQ1.out] at q1
                             have Q1 := hide q1
                             have Q2 := hide (HK.out.trans q2 (fun _ _ h => h) (fun _ _ h => h))
                             clear q1 q2)
                go_roundw
                case rel => exact ⟨2 * k, q1, by go_num, by omega, by omega, HF, Q1, Q2⟩
                case measure => simp [intOf]; omega
              · have hfin := HI.out.last (by rw [HQL.out, ← HA.out]; omega)
                have HF := hide hfin
                clear hmid emid hfin
                go_wp2_with fail
                go_roundw
                case rel => exact ⟨2 * k, q, by go_num, by omega, by omega, HF, HQ, HK⟩
                case measure => simp [intOf]; omega
        · have hfin := HI.out.all (by rw [HI.out.1]; have := E1.out; omega)
          have HF := hide hfin
          clear hfin
          go_wp2_with fail
          go_end0
          exact ⟨rfl, by rw [← HF.out]; exact HQ.out, HK.out⟩
end Go.Proofs.Ytpndigonlgnbeaa
