/- slices.rotateCmpFunc at traps. -/
import Derived.Test.YtpndigonlgnbeaaT3
set_option linter.unusedVariables false
set_option linter.unusedSimpArgs false
namespace Go.Proofs.Ytpndigonlgnbeaa
open Go.RowKit
set_option maxHeartbeats 400000

theorem rotate_trap (g : Nat) (lb : Array Value) (g0 c n a mid b : Nat) (ai mi bi : Int) (m pre U V post : List TrapT) (w : World) (hn : n ≤ 1000000000000) (hR : trapK.RowAt 33 w (fun _ => False) g0 c m) (e1 : n = m.length)
    (hm : m = pre ++ (U ++ (V ++ post))) (ha : a = pre.length) (hmid : mid = a + U.length) (hb : b = mid + V.length) (hU : 0 < U.length) (hV : 0 < V.length) (e2 : ai = a) (e3 : mi = mid) (e4 : bi = b) :
    Calls Try.prog 64 #[.slice (some ⟨g0, 0, none⟩) n c, .int .i64 ai, .int .i64 mi, .int .i64 bi, .func (.func g) #[] lb] w fun e w' => e = .returned (.tuple #[]) ∧ trapK.RowAt 33 w' (fun _ => False) g0 c (pre ++ (V ++ (U ++ post))) ∧ Kept (fun i => i = g0) w w' := by
  subst e2 e3 e4
  have hlen : n = pre.length + (U.length + (V.length + post.length)) := by rw [e1, hm]; simp
  have hb1 : b ≤ n := by omega
  have hm1 : mid < b := by omega
  have ha1 : a < mid := by omega
  have HR := hide hR
  have HM := hide hm
  have HA := hide ha
  have HMID := hide hmid
  have HB := hide hb
  have E1 := hide e1
  have HLEN := hide hlen
  clear hR hm ha hmid hb e1 hlen
  go_enter Try.func64, Try.ntmps64
  go_wp2
  go_loopw [10, 11] (fun ti tj wr => ∃ (i j : Nat) (q P1 U1 V1 Q1 : List TrapT), ti = .int .i64 i ∧ tj = .int .i64 j ∧ 0 < i ∧ 0 < j ∧ i ≤ mid ∧ mid + j ≤ n ∧ Hid (q = P1 ++ (U1 ++ (V1 ++ Q1)) ∧ U1.length = i ∧ V1.length = j ∧ P1.length + i = mid ∧ q.length = n ∧ P1 ++ (V1 ++ (U1 ++ Q1)) = pre ++ (V ++ (U ++ post))) ∧
      Hid (trapK.RowAt 33 wr (fun _ => False) g0 c q) ∧ Hid (Kept (fun i => i = g0) w wr)) (fun ti tj _ => (intOf ti).toNat + (intOf tj).toNat)
  case atStart => exact ⟨U.length, V.length, m, pre, U, V, post, by have := HMID.out; congr 1; omega, by have := HB.out; congr 1; omega, hU, hV, by have := HMID.out; omega, by have := HB.out; omega, ⟨HM.out, rfl, rfl, by have := HMID.out; have := HA.out; omega, E1.out.symm, rfl⟩, HR.out, Kept.refl _ _⟩
  case round =>
    obtain ⟨i, j, q, P1, U1, V1, Q1, rfl, rfl, hi, hj, him, hjn, HH, HRW, HK⟩ := hrel
    by_cases hij : i = j
    · subst hij
      have hne : ((i : Int) != (i : Int)) = false := by simp
      go_wp2_with (go_at_call 66; refine (swapRange_int g lb g0 c (mid - i) mid i n _ _ _ q _ hn HRW.out (by omega) (by have := HH.out.2.2.2.2.1; omega) HH.out.2.2.2.2.1.symm (by omega) rfl rfl).mono ?_; rintro e w1 ⟨rfl, q1, hs1, hr1, hk1⟩)
      go_end0
      obtain ⟨hq, h1, h2, h3, h4, h5⟩ := HH.out
      rw [hq] at hs1
      have hq1 := hs1.parts (B := []) (A := U1) (C := V1) (by omega) h1 h2 (by simp; omega)
      have e : q1 = pre ++ (V ++ (U ++ post)) := by rw [hq1, ← h5]; rfl
      rw [e] at hr1
      exact ⟨rfl, hr1, HK.out.trans hk1 (fun _ _ h => h) (fun _ _ h => h)⟩
    · have hne : ((i : Int) != (j : Int)) = true := bne_iff_ne.2 (by omega)
      by_cases hlt : j < i
      · go_wp2_with (go_at_call 66; refine (swapRange_int g lb g0 c (mid - i) mid j n _ _ _ q _ hn HRW.out (by omega) (by have := HH.out.2.2.2.2.1; omega) HH.out.2.2.2.2.1.symm (by omega) rfl rfl).mono ?_; rintro e w1 ⟨rfl, q1, hs1, hr1, hk1⟩; have HS1 := hide hs1; have HR1 := hide hr1; have HK1 := hide hk1; clear hs1 hr1 hk1)
        go_roundw
        case rel =>
          obtain ⟨hq, h1, h2, h3, h4, h5⟩ := HH.out
          have hs1 := HS1.out
          rw [hq, ← List.take_append_drop j U1, List.append_assoc] at hs1
          have hq1 := hs1.parts (B := U1.drop j) (A := U1.take j) (C := V1) (by omega) (by rw [List.length_take]; omega) h2 (by rw [List.length_take, List.length_drop]; omega)
          refine ⟨i - j, j, q1, P1 ++ V1, U1.drop j, U1.take j, Q1, by congr 1; omega, rfl, by omega, by omega, by omega, by omega, ⟨by rw [hq1]; simp, by rw [List.length_drop]; omega, by rw [List.length_take]; omega, by rw [List.length_append]; omega, by rw [HS1.out.1]; exact h4, ?_⟩, HR1.out, HK.out.trans HK1.out (fun _ _ h => h) (fun _ _ h => h)⟩
          rw [← h5]
          simp only [List.append_assoc]
          rw [← List.append_assoc (U1.take j) (U1.drop j) Q1, List.take_append_drop]
        case measure => simp [intOf]; omega
      · go_wp2_with (go_at_call 66; refine (swapRange_int g lb g0 c (mid - i) (mid + j - i) i n _ _ _ q _ hn HRW.out (by omega) (by have := HH.out.2.2.2.2.1; omega) HH.out.2.2.2.2.1.symm (by omega) (by omega) rfl).mono ?_; rintro e w1 ⟨rfl, q1, hs1, hr1, hk1⟩; have HS1 := hide hs1; have HR1 := hide hr1; have HK1 := hide hk1; clear hs1 hr1 hk1)
        go_roundw
        case rel =>
          obtain ⟨hq, h1, h2, h3, h4, h5⟩ := HH.out
          have hs1 := HS1.out
          rw [hq, ← List.take_append_drop (j - i) V1, List.append_assoc] at hs1
          have hq1 := hs1.parts (B := V1.take (j - i)) (A := U1) (C := V1.drop (j - i)) (by omega) (by omega) (by rw [List.length_drop]; omega) (by rw [List.length_take]; omega)
          refine ⟨i, j - i, q1, P1, V1.drop (j - i), V1.take (j - i), U1 ++ Q1, rfl, by congr 1; omega, by omega, by omega, by omega, by omega, ⟨by rw [hq1], by rw [List.length_drop]; omega, by rw [List.length_take]; omega, h3, by rw [HS1.out.1]; exact h4, ?_⟩, HR1.out, HK.out.trans HK1.out (fun _ _ h => h) (fun _ _ h => h)⟩
          rw [← h5]
          rw [← List.append_assoc (V1.take (j - i)) (V1.drop (j - i)) (U1 ++ Q1), List.take_append_drop]
        case measure => simp [intOf]; omega
end Go.Proofs.Ytpndigonlgnbeaa
