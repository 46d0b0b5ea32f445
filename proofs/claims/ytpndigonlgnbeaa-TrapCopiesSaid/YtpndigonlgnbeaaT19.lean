/- The law TrapWays: the walk. -/
import Derived.Test.YtpndigonlgnbeaaT18
import Derived.Deep.DeepCutAuto
set_option linter.unusedVariables false
set_option linter.unusedSimpArgs false
namespace Go.Proofs.Ytpndigonlgnbeaa
open Go.RowKit
set_option maxHeartbeats 3200000
set_option maxRecDepth 1000000

theorem TrapWays_any (A : Option Addr) (n c : Nat) (l : List DeedT) (len : Int) (B : Option Addr) (m d : Nat) (cuts : List Int) (w : World) (hA : deedK.Rd w (fun _ => True) A n l) (hn : n ≤ 9223372036854775807)
    (hB : Kind.int.Rd w (fun _ => True) B m cuts) (hm : m ≤ 9223372036854775807) :
    Calls Try.prog 3 #[.slice A n c, .int .i64 len, .slice B m d] w fun e w' => e = .returned (.bool true) ∧ Below w.heap.size w w' := by
  obtain ⟨z, hz⟩ : ∃ z : Nat, (z : Int) = (IntKind.u64.wrap len).tmod 1201 ∧ z ≤ 1200 := by
    have h0 : 0 ≤ IntKind.u64.wrap len := by rw [IntKind.wrap_u64]; omega
    refine ⟨((IntKind.u64.wrap len).tmod 1201).toNat, ?_, ?_⟩
    · rw [Int.tmod_eq_emod_of_nonneg h0]; omega
    · rw [Int.tmod_eq_emod_of_nonneg h0]; omega
  obtain ⟨hz1, hz2⟩ := hz
  have hz1' := hz1.symm
  have HRA := hide hA
  have HRB := hide hB
  clear hA hB hz1
  go_enter Try.func3, Try.ntmps3
  go_upto_region 3 with (go_at_call 8; refine (planted_trap A n c l _ _ HRA.out hn).mono ?_; rintro e w1 ⟨g, v, ts, rfl, q1, q2, q3⟩; have HT := hide q1; have HL := hide q2; have HB := hide q3; clear q1 q2 q3)
  have HZ := hide hz1'
  clear hz1'
  have htl := HL.out
  have e1 := hide (passP_all z ts (by omega))
  go_upto_region 4 with (go_at_call 9; refine (Passed_ok w.heap.size g v ts z (-1) 1300 _ HT.out (by omega) (by omega) (by omega) (by omega) (by omega) (by omega)).mono ?_; rw [e1.out]; rintro e w2 ⟨v2, rfl, q1, q2⟩; obtain ⟨A2, c2, rfl, -, -, -, -, q3⟩ := Kind.Own.form q1; have HO2 := hide q1; have HR2 := hide q3; have HT2 := hide (HT.out.below q2); have HB2 := hide (HB.out.trans (q2.mono HB.out.size)); clear q1 q2 q3)
  go_upto_if 40 with (go_at_call 10; refine (On_trap w.heap.size g v ts z _ HT2.out (by omega)).mono ?_; rintro e w3 ⟨v3, rfl, q1, q2⟩; obtain ⟨A3, c3, rfl, -, -, -, -, q3⟩ := Kind.Own.form q1; have HT3 := hide (HT2.out.below q2); have HB3 := hide (HB2.out.trans (q2.mono HB2.out.size)); have HR3 := hide (HR2.out.below q2); clear q1 q2 q3)
  go_wp2_with fail
  go_loopw [11, 12, 13, 14, 15, 16] (fun t11 t12 t13 _ _ _ wr => ∃ (i : Nat) (a : Int), t13 = .int .i64 i ∧ t11 = .int .i64 a ∧ -1 ≤ a ∧ a ≤ 1300 ∧ i ≤ m + 1 ∧ i ≤ 51 ∧ Hid (m < i ∨ 50 < i → a = 1300) ∧
      Hid (trapK.Own 33 wr (fun _ => False) w3.heap.size t12 (passP z (-1) a ts)) ∧ Hid (Below w3.heap.size w3 wr)) (fun _ _ t13 _ _ _ _ => 52 - (intOf t13).toNat)
  case atStart => exact ⟨0, -1, rfl, rfl, by omega, by omega, by omega, by omega, hide (fun h => by omega), hide (by rw [passP_none]; exact Kind.Own.nil _ _ _ _ _), hide (Below.refl _ _)⟩
  case round =>
    obtain ⟨i, a, rfl, rfl, ha1, ha2, hi1, hi2, HF, HO, HK⟩ := hrel
    go_upto_region 9 with fail
    go_cut [48] (fun s wx => s = .bool (decide (i ≤ m ∧ i ≤ 50)) ∧ wr = wx)
    case first =>
      by_cases h1 : i ≤ m
      · by_cases h2 : i ≤ 50
        · go_wp2_with fail
          go_meet
          exact ⟨congrArg Value.bool (by first | (simp [h1, h2]; done) | (simp [h1, h2]; omega)), rfl⟩
        · go_wp2_with fail
          go_meet
          exact ⟨congrArg Value.bool (by first | (simp [h1, h2]; done) | (simp [h1, h2]; omega)), rfl⟩
      · go_wp2_with fail
        go_meet
        exact ⟨congrArg Value.bool (by first | (simp [h1]; done) | (simp [h1]; omega)), rfl⟩
    case rest =>
    obtain ⟨rfl, rfl⟩ := hcut
    by_cases hin : i ≤ m ∧ i ≤ 50
    · rw [decide_eq_true hin]
      obtain ⟨hin1, hin2⟩ := hin
      go_upto_region 12 with fail
      go_cut [58] (fun s wx => s = .bool (decide (i < m ∧ i < 50)) ∧ wr = wx)
      case first =>
        by_cases h1 : i < m
        · by_cases h2 : i < 50
          · go_wp2_with fail
            go_meet
            exact ⟨congrArg Value.bool (by first | (simp [h1, h2]; done) | (simp [h1, h2]; omega)), rfl⟩
          · go_wp2_with fail
            go_meet
            exact ⟨congrArg Value.bool (by first | (simp [h1, h2]; done) | (simp [h1, h2]; omega)), rfl⟩
        · go_wp2_with fail
          go_meet
          exact ⟨congrArg Value.bool (by first | (simp [h1]; done) | (simp [h1]; omega)), rfl⟩
      case rest =>
      obtain ⟨rfl, rfl⟩ := hcut
      go_upto_if 58 with fail
      go_cut [14] (fun s wx => ∃ y : Int, s = .int .i64 y ∧ a ≤ y ∧ y ≤ 1300 ∧ Hid (m < i + 1 ∨ 50 < i + 1 → y = 1300) ∧ wr = wx)
      case first =>
        by_cases hh : i < m ∧ i < 50
        · rw [decide_eq_true hh]
          obtain ⟨hh1, hh2⟩ := hh
          obtain ⟨b, off, cs, rfl, hblt, hK, hcell⟩ := (HRB.out.below (HB3.out.trans (HK.out.mono HB3.out.size))).at_ (i := i) (by have := HRB.out.1; omega)
          subst hK
          obtain ⟨q, hq⟩ : ∃ q, q = cuts[i]'(by have := HRB.out.1; omega) := ⟨_, rfl⟩
          rw [← hq] at hcell
          have c0 : wr.cell? ⟨b, off + i, none⟩ = some (.int .i64 q) := by
            have h := hcell 0 _ rfl
            rw [show off + i * Kind.int.sz + 0 = off + i from by show off + i * 1 + 0 = off + i; omega] at h
            exact h
          clear hcell hq
          obtain ⟨y, hy1, hy2⟩ : ∃ y : Nat, (y : Int) = (IntKind.u64.wrap q).tmod 300 ∧ y ≤ 299 := by
            have h0 : 0 ≤ IntKind.u64.wrap q := by rw [IntKind.wrap_u64]; omega
            refine ⟨((IntKind.u64.wrap q).tmod 300).toNat, ?_, ?_⟩
            · rw [Int.tmod_eq_emod_of_nonneg h0]; omega
            · rw [Int.tmod_eq_emod_of_nonneg h0]; omega
          have hy3 := hy1.symm
          clear hy1
          go_wp2_with fail
          all_goals go_meet
          all_goals exact ⟨_, rfl, by omega, by omega, hide (fun h => by omega), rfl⟩
        · rw [decide_eq_false hh]
          go_wp2_with fail
          go_meet
          exact ⟨1300, rfl, ha2, by omega, hide (fun _ => rfl), rfl⟩
      case rest =>
      obtain ⟨y, rfl, hy1, hy2, HY, rfl⟩ := hcut
      have hpl := passP_len z a y ts
      have hpl2 := passP_len z (-1) a ts
      go_wp2_with (first
        | (go_at_call 9; refine (Passed_ok w.heap.size g v ts z a y _ (HT3.out.below HK.out) (by omega) (by omega) (by omega) (by omega) (by omega) (by omega)).mono ?_; rintro e w4 ⟨v4, rfl, q1, q2⟩; obtain ⟨A4, c4, rfl, -, -, -, -, q3⟩ := Kind.Own.form q1; have HO4 := hide q1; have HR4 := hide q3; have HOO := hide (HO.out.below q2); have HK4 := hide (HK.out.trans (q2.mono HK.out.size)); have HLT := hide (fun k hk => (HO.out.lt k hk).2); have HB4 := hide q2; clear q1 q2 q3)
        | (at_builtin
           refine wpList_append_rd (ok := fun k => False ∨ (Value.slice A4 (passP z a y ts).length c4).ownBlock = some k) (base := w3.heap.size) w4 trapK rfl _ _ 27 rfl 33 _ 24 Try.underlying27 info_trap rfl (by decide) (by decide) u12 (passP z (-1) a ts) rfl (own_any HOO.out) A4 (passP z a y ts).length c4 (passP z a y ts) rfl HR4.out ?_ (by omega) HK4.out.size ?_
           · intro k hk e
             rcases hk with hk | hk
             · exact hk
             · have h1 := (HO4.out.lt k hk).1
               have h2 := HLT.out k e
               omega
           intro v5 w5 hown5 hg5 hat5
           have HO5 := hide (own_any (ok' := fun _ => False) hown5)
           have HG5 := hide hg5
           clear hown5 hg5 hat5))
      go_roundw
      case rel => exact ⟨i + 1, y, by go_num, rfl, by omega, hy2, by omega, by omega, HY, hide (by rw [← passP_cut z (-1) a y ts (by omega) hy1]; exact HO5.out), hide (HK4.out.grown HG5.out HK4.out.size (fun j hj => (HOO.out.lt j hj).1))⟩
      case measure => simp [intOf]; omega
    · rw [decide_eq_false hin]
      have ha : a = 1300 := HF.out (by omega)
      subst ha
      have ho := HO.out
      rw [e1.out] at ho
      have HO5 := hide ho
      clear ho
      have hol := onP_len z ts
      obtain ⟨A5, c5, hu, -, -, -, -, hr5⟩ := HO5.out.form
      subst hu
      have HR5 := hide hr5
      have HR6 := hide (HR3.out.below HK.out)
      have HBW := hide (HB3.out.trans (HK.out.mono HB3.out.size))
      clear hr5
      obtain ⟨L, hL⟩ : ∃ L, L = onP z ts := ⟨_, rfl⟩
      have HSL := hide (onP_sorted z ts)
      rw [← hL] at HR5 HR6 HSL hol ⊢
      clear hL
      have hin2 : m < i ∨ 50 < i := by omega
      clear hin HO5 HO HF
      have hie : ((L.length : Int) != (L.length : Int)) = false := by simp
      go_wp2_with fail
      go_loopw [17] (fun t17 wx => ∃ j : Nat, t17 = .int .i64 j ∧ j ≤ L.length ∧ Hid (Below wr.heap.size wr wx)) (fun t17 _ => L.length - (intOf t17).toNat)
      case atStart => exact ⟨0, rfl, Nat.zero_le _, hide (Below.refl _ _)⟩
      case round =>
        obtain ⟨j, rfl, hj, HX⟩ := hrel
        by_cases hjl : j < L.length
        · obtain ⟨x, hx⟩ : ∃ x, L[j]? = some x := ⟨_, List.getElem?_eq_getElem hjl⟩
          obtain ⟨b5, o5, rfl, p0, p1⟩ := rd_trap (HR5.out.below HX.out) hx
          obtain ⟨b6, o6, rfl, p2, p3⟩ := rd_trap (HR6.out.below HX.out) hx
          by_cases hj0 : 0 < j
          · obtain ⟨jp, hjp⟩ : ∃ jp : Nat, jp + 1 = j := ⟨j - 1, by omega⟩
            obtain ⟨y, hy⟩ : ∃ y, L[jp]? = some y := ⟨_, List.getElem?_eq_getElem (by omega)⟩
            obtain ⟨b7, o7, e7, p4, -⟩ := rd_trap (HR6.out.below HX.out) hy
            cases e7
            have hxy : y.at_ ≤ x.at_ := sorted_get HSL.out hy (by rw [hjp]; exact hx)
            have jz4 : (j : Int) - 1 = (jp : Int) := by omega
            have JZ4 := hide jz4
            have jl1 : jp < j := by omega
            have C0 := cell_after p0
            have C1 := cell_after p1
            have C2 := cell_after p2
            have C3 := cell_after p3
            have C4 := cell_after p4
            clear p0 p1 p2 p3 p4 hx hy hjp jz4
            go_upto_region 24 with fail
            have jz1 : (j : Int) < (L.length : Int) := by omega
            have jz2 : (0 : Int) < (j : Int) := by omega
            have jz5 : (jp : Int) < (L.length : Int) := by omega
            have jz3 : IntKind.i64.wrap ((j : Int) - 1) = (jp : Int) := by rw [JZ4.out, IntKind.wrap_i64]; omega
            have jz4 := JZ4.out
            have jz6 : ¬ x.at_ < y.at_ := by omega
            refine wp_region_after (by kernel_rfl) (by kernel_rfl) ?_
            repeat (go_big_quiet_step (fail))
            refine wpQuiet_nil ?_
            intro _ hw'
            obtain ⟨q, rfl⟩ := hw'
            have HQ := hide q.h
            clear C0 C1 C2 C3 C4 jz3 jz4
            generalize q.W = wq at HQ ⊢
            go_wp2_with fail
            go_roundw
            case rel => exact ⟨j + 1, by go_num, by omega, hide (below_self HX.out HQ.out)⟩
            case measure => simp [intOf]; omega
          · have hj1 : j = 0 := by omega
            subst hj1
            simp only [Nat.zero_mul, Nat.add_zero] at p0 p1 p2 p3
            have C0 := cell_after p0
            have C1 := cell_after p1
            have C2 := cell_after p2
            have C3 := cell_after p3
            clear p0 p1 p2 p3 hx
            go_upto_region 24 with fail
            have jz1 : (0 : Int) < (L.length : Int) := by omega
            refine wp_region_after (by kernel_rfl) (by kernel_rfl) ?_
            repeat (go_big_quiet_step (fail))
            refine wpQuiet_nil ?_
            intro _ hw'
            obtain ⟨q, rfl⟩ := hw'
            have HQ := hide q.h
            clear C0 C1 C2 C3
            generalize q.W = wq at HQ ⊢
            go_wp2_with fail
            go_roundw
            case rel => exact ⟨1, by go_num, by omega, hide (below_self HX.out HQ.out)⟩
            case measure => simp [intOf]; omega
        · go_wp2_with (go_at_call 11; refine (sane_any _).mono ?_; rintro e w9 ⟨rfl, q⟩; have HQ := hide q; clear q)
          go_ret
          exact ⟨rfl, (HBW.out.trans (HX.out.mono HBW.out.size)).trans (HQ.out.mono (Nat.le_trans HBW.out.size HX.out.size))⟩
end Go.Proofs.Ytpndigonlgnbeaa
