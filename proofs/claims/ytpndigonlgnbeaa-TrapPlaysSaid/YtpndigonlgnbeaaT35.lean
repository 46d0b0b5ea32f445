/- The law's questions: same, texts, told, asked. -/
import Derived.Test.YtpndigonlgnbeaaT34
import Derived.Test.YtpndigonlgnbeaaT23
set_option linter.unusedVariables false
set_option linter.unusedSimpArgs false
namespace Go.Proofs.Ytpndigonlgnbeaa
open Go.RowKit
set_option maxHeartbeats 3200000
set_option maxRecDepth 1000000

theorem same_any (A : Option Addr) (c : Nat) (B : Option Addr) (d n : Nat) (L : List TrapT) (ok ok' : Nat → Prop) (w : World) (hn : n ≤ 1000000) (hA : trapK.Rd w ok A n L) (hB : trapK.Rd w ok' B n L) :
    Calls Try.prog 38 #[.slice A n c, .slice B n d] w fun e w' => e = .returned (.bool true) ∧ Below w.heap.size w w' := by
  have HA := hide hA
  have HB := hide hB
  have hie : ((n : Int) != (n : Int)) = false := by simp
  have hln : L.length = n := hA.1
  have HLN := hide hln
  clear hA hB hln
  go_enter Try.func38, Try.ntmps38
  go_wp2_with fail
  go_loopw [5] (fun t5 wr => ∃ i : Nat, t5 = .int .i64 i ∧ i ≤ n ∧ Hid (Below w.heap.size w wr)) (fun t5 _ => n - (intOf t5).toNat)
  case atStart => exact ⟨0, rfl, Nat.zero_le _, hide (Below.refl _ _)⟩
  case round =>
    obtain ⟨i, rfl, hi, HK⟩ := hrel
    by_cases hlt : i < n
    · obtain ⟨x, hx⟩ : ∃ x, L[i]? = some x := ⟨_, List.getElem?_eq_getElem (by have := HLN.out; omega)⟩
      obtain ⟨b1, o1, rfl, p0, p1⟩ := rd_trap (HA.out.below HK.out) hx
      obtain ⟨b2, o2, rfl, p2, p3⟩ := rd_trap (HB.out.below HK.out) hx
      have C0 := cell_after p0
      have C1 := cell_after p1
      have C2 := cell_after p2
      have C3 := cell_after p3
      clear p0 p1 p2 p3 hx
      go_upto_region 6 with fail
      have jz1 : (i : Int) < (n : Int) := by omega
      refine wp_region_after (by kernel_rfl) (by kernel_rfl) ?_
      repeat (go_big_quiet_step (fail))
      refine wpQuiet_nil ?_
      intro _ hw'
      obtain ⟨q, rfl⟩ := hw'
      have HQ := hide q.h
      clear C0 C1 C2 C3
      generalize q.W = wq at HQ ⊢
      go_wp2_with fail
      go_roundw
      case rel => exact ⟨i + 1, by go_num, by omega, hide (below_self HK.out HQ.out)⟩
      case measure => simp [intOf]; omega
    · go_wp2_with fail
      go_ret
      exact ⟨rfl, HK.out⟩

theorem texts_any (A : Option Addr) (c : Nat) (B : Option Addr) (d n : Nat) (L : List ByteArray) (ok ok' : Nat → Prop) (w : World) (hn : n ≤ 1000000) (hA : Kind.str.Rd w ok A n L) (hB : Kind.str.Rd w ok' B n L) :
    Calls Try.prog 44 #[.slice A n c, .slice B n d] w fun e w' => e = .returned (.bool true) ∧ Below w.heap.size w w' := by
  have HA := hide hA
  have HB := hide hB
  have hie : ((n : Int) != (n : Int)) = false := by simp
  have hln : L.length = n := hA.1
  have HLN := hide hln
  clear hA hB hln
  go_enter Try.func44, Try.ntmps44
  go_wp2_with fail
  go_loopw [5] (fun t5 wr => ∃ i : Nat, t5 = .int .i64 i ∧ i ≤ n ∧ Hid (Below w.heap.size w wr)) (fun t5 _ => n - (intOf t5).toNat)
  case atStart => exact ⟨0, rfl, Nat.zero_le _, hide (Below.refl _ _)⟩
  case round =>
    obtain ⟨i, rfl, hi, HK⟩ := hrel
    by_cases hlt : i < n
    · obtain ⟨x, hx⟩ : ∃ x, L[i]? = some x := ⟨_, List.getElem?_eq_getElem (by have := HLN.out; omega)⟩
      obtain ⟨b1, o1, rfl, p0⟩ := rd_str (HA.out.below HK.out) hx
      obtain ⟨b2, o2, rfl, p2⟩ := rd_str (HB.out.below HK.out) hx
      have C0 := cell_after p0
      have C2 := cell_after p2
      clear p0 p2 hx
      go_upto_region 6 with fail
      have jz1 : (i : Int) < (n : Int) := by omega
      refine wp_region_after (by kernel_rfl) (by kernel_rfl) ?_
      repeat (go_big_quiet_step (fail))
      refine wpQuiet_nil ?_
      intro _ hw'
      obtain ⟨q, rfl⟩ := hw'
      have HQ := hide q.h
      clear C0 C2
      generalize q.W = wq at HQ ⊢
      go_wp2_with fail
      go_roundw
      case rel => exact ⟨i + 1, by go_num, by omega, hide (below_self HK.out HQ.out)⟩
      case measure => simp [intOf]; omega
    · go_wp2_with fail
      go_ret
      exact ⟨rfl, HK.out⟩

theorem told_tab (base g : Nat) (v : Value) (ts : List TrapT) (x : DeedT) (w : World) (hT : RTab base w g v ts) (hn : ts.length ≤ 1000000) (hbase : base ≤ w.heap.size) (hs : x.s.size ≤ 9223372036854775807) :
    Calls Try.prog 15 #[.pointer (some ⟨g, 0, none⟩), .agg #[.int .i64 x.k, .int .i64 x.a, .string x.s]] w fun e w' => e = .returned (.int .i64 (doP x ts).1) ∧ RMut base w w' g v (doP x ts).2 := by
  obtain ⟨k, a, s⟩ := x
  have hal : Below w.heap.size w (w.alloc (.cells #[.int .i64 k, .int .i64 a, .string s] 43)) := (Below.refl _ _).alloc (Nat.le_refl _) _
  have HT := hide hT
  have HT2 := hide (hT.below hal)
  have HAL := hide hal
  have hlt : ∀ k, v.ownBlock = some k → k < w.heap.size := fun k hk => (hT.own.lt k hk).2
  have HLT := hide hlt
  have hb2 := Nat.le_trans hbase hal.size
  have HB2 := hide hb2
  clear hT hal hlt hb2
  show Calls Try.prog 15 #[.pointer (some ⟨g, 0, none⟩), .agg #[.int .i64 k, .int .i64 a, .string s]] w _
  by_cases h0 : k = 0
  · subst h0
    have e : doP ⟨0, a, s⟩ ts = plantP a s ts := by unfold doP; rw [if_pos rfl]
    rw [e]
    clear e
    obtain ⟨pp, hpp⟩ : ∃ pp, pp = plantP a s ts := ⟨_, rfl⟩
    rw [← hpp]
    have HPP := hide hpp
    clear hpp
    go_enter Try.func15, Try.ntmps15
    go_wp2_with (go_at_call 34; refine (RPlant_tab base g v ts a s _ HT2.out hn HB2.out hs).mono ?_; rw [← HPP.out]; rintro e w2 ⟨rfl, q⟩; have Q := hide q; clear q)
    go_ret
    exact ⟨rfl, Q.out.after HAL.out⟩
  · by_cases h1 : k = 1
    · subst h1
      have e : doP ⟨1, a, s⟩ ts = clearP a ts := by unfold doP; rw [if_neg (show ¬ (1 : Int) = 0 by omega), if_pos rfl]
      rw [e]
      clear e
      obtain ⟨pp, hpp⟩ : ∃ pp, pp = clearP a ts := ⟨_, rfl⟩
      rw [← hpp]
      have HPP := hide hpp
      clear hpp
      go_enter Try.func15, Try.ntmps15
      go_wp2_with (go_at_call 35; refine (RClear_tab base g v ts a _ HT2.out hn HB2.out).mono ?_; rw [← HPP.out]; rintro e w2 ⟨rfl, q⟩; have Q := hide q; clear q)
      go_ret
      exact ⟨rfl, Q.out.after HAL.out⟩
    · by_cases h2 : k = 2
      · subst h2
        have e : doP ⟨2, a, s⟩ ts = moveP s a ts := by unfold doP; rw [if_neg (show ¬ (2 : Int) = 0 by omega), if_neg (show ¬ (2 : Int) = 1 by omega), if_pos rfl]
        rw [e]
        clear e
        obtain ⟨pp, hpp⟩ : ∃ pp, pp = moveP s a ts := ⟨_, rfl⟩
        rw [← hpp]
        have HPP := hide hpp
        clear hpp
        go_enter Try.func15, Try.ntmps15
        go_wp2_with (go_at_call 36; refine (RMove_tab base g v ts s a _ HT2.out hn HB2.out hs).mono ?_; rw [← HPP.out]; rintro e w2 ⟨rfl, q⟩; have Q := hide q; clear q)
        go_ret
        exact ⟨rfl, Q.out.after HAL.out⟩
      · by_cases h3 : k = 3
        · subst h3
          have e : doP ⟨3, a, s⟩ ts = dropP s ts := by unfold doP; rw [if_neg (show ¬ (3 : Int) = 0 by omega), if_neg (show ¬ (3 : Int) = 1 by omega), if_neg (show ¬ (3 : Int) = 2 by omega), if_pos rfl]
          rw [e]
          clear e
          obtain ⟨pp, hpp⟩ : ∃ pp, pp = dropP s ts := ⟨_, rfl⟩
          rw [← hpp]
          have HPP := hide hpp
          clear hpp
          go_enter Try.func15, Try.ntmps15
          go_wp2_with (go_at_call 37; refine (RDrop_tab base g v ts s _ HT2.out hn HB2.out hs).mono ?_; rw [← HPP.out]; rintro e w2 ⟨rfl, q⟩; have Q := hide q; clear q)
          go_ret
          exact ⟨rfl, Q.out.after HAL.out⟩
        · have e : doP ⟨k, a, s⟩ ts = (0, ts) := by unfold doP; rw [if_neg h0, if_neg h1, if_neg h2, if_neg h3]
          rw [e]
          clear e
          have b0 : (k == 0) = false := beq_eq_false_iff_ne.2 h0
          have b1 : (k == 1) = false := beq_eq_false_iff_ne.2 h1
          have b2 : (k == 2) = false := beq_eq_false_iff_ne.2 h2
          have b3 : (k == 3) = false := beq_eq_false_iff_ne.2 h3
          clear h0 h1 h2 h3
          go_enter Try.func15, Try.ntmps15
          go_wp2_with fail
          go_ret
          exact ⟨rfl, RMut.same HT.out HAL.out⟩

theorem asked_any (b1 g1 : Nat) (v1 : Value) (b2 g2 : Nat) (v2 : Value) (ts : List TrapT) (len f t : Int) (w : World) (hT : Tab b1 w g1 v1 ts) (hR : RTab b2 w g2 v2 ts) (hn : ts.length ≤ 1000000) :
    Calls Try.prog 16 #[.pointer (some ⟨g1, 0, none⟩), .pointer (some ⟨g2, 0, none⟩), .int .i64 len, .int .i64 f, .int .i64 t] w fun e w' => e = .returned (.bool true) ∧ Below w.heap.size w w' := by
  have HT0 := hide hT
  have HR0 := hide hR
  obtain ⟨LO, hLO⟩ : ∃ LO, LO = onP len ts := ⟨_, rfl⟩
  have HLO := hide hLO
  have hlol : LO.length ≤ 1000000 := by rw [hLO]; exact Nat.le_trans (onP_len len ts) hn
  have HLOL := hide hlol
  clear hlol
  obtain ⟨d, hd⟩ : ∃ d, d = distP len f ts := ⟨_, rfl⟩
  have HD := hide hd
  have hdd : (d != d) = false := by simp
  obtain ⟨lz, hlz⟩ : ∃ lz, lz = (landsP f len).getD 0 := ⟨_, rfl⟩
  have HLZ := hide hlz
  obtain ⟨lb, hlb⟩ : ∃ lb, lb = (landsP f len).isSome := ⟨_, rfl⟩
  have HLB := hide hlb
  clear hT hR hLO hd hlz hlb
  go_enter Try.func16, Try.ntmps16
  go_upto_if 49 with (first
    | (go_at_call 22; refine (All_trap b1 g1 v1 ts _ HT0.out (by omega)).mono ?_; rintro e w1 ⟨u1, rfl, q1, q2⟩; obtain ⟨A1, c1, rfl, -, -, -, -, q3⟩ := Kind.Own.form q1; have HA1 := hide q3; have HB1 := hide q2; have HR1 := hide (HR0.out.below q2); clear q1 q2 q3)
    | (go_at_call 39; refine (RAll_tab b2 g2 v2 ts _ HR1.out hn).mono ?_; rintro e w2 ⟨u2, rfl, q1, q2⟩; obtain ⟨A2, c2, rfl, -, -, -, -, q3⟩ := Kind.Own.form q1; have HA2 := hide q3; have HA1' := hide (HA1.out.below q2); have HB2 := hide (below_self HB1.out q2); clear q1 q2 q3)
    | (go_at_call 38; refine (same_any A1 c1 A2 c2 ts.length ts _ _ _ hn HA1'.out HA2.out).mono ?_; rintro e w3 ⟨rfl, q2⟩; have HB3 := hide (below_self HB2.out q2); clear HA1 HA1' HA2 q2)
    | (go_at_call 10; refine (On_trap b1 g1 v1 ts len _ (HT0.out.below HB3.out) (by omega)).mono ?_; rw [← HLO.out]; rintro e w4 ⟨u4, rfl, q1, q2⟩; obtain ⟨A4, c4, rfl, -, -, -, -, q3⟩ := Kind.Own.form q1; have HA4 := hide q3; have HB4 := hide (below_self HB3.out q2); clear q1 q2 q3)
    | (go_at_call 40; refine (ROn_tab b2 g2 v2 ts len _ (HR0.out.below HB4.out) hn).mono ?_; rw [← HLO.out]; rintro e w5 ⟨u5, rfl, q1, q2⟩; obtain ⟨A5, c5, rfl, -, -, -, -, q3⟩ := Kind.Own.form q1; have HA5 := hide q3; have HA4' := hide (HA4.out.below q2); have HB5 := hide (below_self HB4.out q2); clear q1 q2 q3)
    | (go_at_call 38; refine (same_any A4 c4 A5 c5 LO.length LO _ _ _ HLOL.out HA4'.out HA5.out).mono ?_; rintro e w6 ⟨rfl, q2⟩; have HB6 := hide (below_self HB5.out q2); clear HA4 HA4' HA5 q2)
    | (go_at_call 18; refine (Distance_any b1 g1 v1 ts len f _ (HT0.out.below HB6.out) hn).mono ?_; rw [← HD.out]; rintro e w7 ⟨rfl, q2⟩; have HB7 := hide (below_self HB6.out q2); clear q2)
    | (go_at_call 41; refine (RDistance_any b2 g2 v2 ts len f _ (HR0.out.below HB7.out) hn).mono ?_; rw [← HD.out]; rintro e w8 ⟨rfl, q2⟩; have HB8 := hide (below_self HB7.out q2); clear q2))
  have HT := hide (HT0.out.below HB8.out)
  have HR := hide (HR0.out.below HB8.out)
  clear HT0 HR0 HB1 HB2 HB3 HB4 HB5 HB6 HB7 HR1
  go_upto_region 3 with fail
  by_cases hbad : len < 0 ∨ 1000000 < len ∨ f < -1 ∨ 1000000 < t ∨ t < f
  · have HX := hide hbad
    clear hbad
    have hnil : ∀ W : World, trapK.Rd W (fun _ => False) none 0 [] := fun W => Kind.Rd.nil _ _ _ _
    have hnils : ∀ W : World, Kind.str.Rd W (fun _ => False) none 0 [] := fun W => Kind.Rd.nil _ _ _ _
    have HNIL := hide hnil
    have HNILS := hide hnils
    clear hnil hnils
    go_wp2_with (first
      | (go_at_call 9; refine (Passed_bad b1 g1 v1 ts len f t _ HT.out HX.out).mono ?_; rintro e w1 ⟨rfl, q2⟩; have HP1 := hide (below_self HB8.out q2); have HR1 := hide (HR.out.below q2); have HT1 := hide (HT.out.below q2); clear q2)
      | (go_at_call 42; refine (RPassed_bad b2 g2 v2 ts len f t _ HR1.out HX.out).mono ?_; rintro e w2 ⟨rfl, q2⟩; have HP2 := hide (below_self HP1.out q2); have HR2 := hide (HR1.out.below q2); have HT2 := hide (HT1.out.below q2); clear q2)
      | (go_at_call 38; refine (same_any none 0 none 0 0 [] _ _ _ (Nat.zero_le _) (HNIL.out _) (HNIL.out _)).mono ?_; rintro e w3 ⟨rfl, q2⟩; have HP3 := hide (below_self HP2.out q2); have HR3 := hide (HR2.out.below q2); have HT3 := hide (HT2.out.below q2); clear q2)
      | (go_at_call 17; refine (First_bad b1 g1 v1 ts len f t _ HT3.out HX.out).mono ?_; rintro e w4 ⟨rfl, q2⟩; have HP4 := hide (below_self HP3.out q2); have HR4 := hide (HR3.out.below q2); clear q2)
      | (go_at_call 43; refine (RFirst_bad b2 g2 v2 ts len f t _ HR4.out HX.out).mono ?_; rintro e w5 ⟨rfl, q2⟩; have HP5 := hide (below_self HP4.out q2); clear q2)
      | (go_at_call 44; refine (texts_any none 0 none 0 0 [] _ _ _ (Nat.zero_le _) (HNILS.out _) (HNILS.out _)).mono ?_; rintro e w6 ⟨rfl, q2⟩; have HP6 := hide (below_self HP5.out q2); clear q2)
      | (go_at_call 26; refine (Lands_any _ _ _).mono ?_; rw [← HLZ.out, ← HLB.out]; rintro e w' ⟨rfl, rfl⟩)
      | (go_at_call 45; refine (RLands_any _ _ _).mono ?_; rw [← HLZ.out, ← HLB.out]; rintro e w' ⟨rfl, rfl⟩))
    all_goals go_ret
    all_goals exact ⟨by first | rfl | simp, HP6.out⟩
  · have h1 : ¬ len < 0 := by omega
    have h2 : ¬ 1000000 < len := by omega
    have h3 : ¬ f < -1 := by omega
    have h4 : ¬ 1000000 < t := by omega
    have h5 : ¬ t < f := by omega
    clear hbad
    have H1 := hide h1
    have H2 := hide h2
    have H3 := hide h3
    have H4 := hide h4
    have H5 := hide h5
    obtain ⟨LP, hLP⟩ : ∃ LP, LP = passP len f t ts := ⟨_, rfl⟩
    have HLP := hide hLP
    have hlpl : LP.length ≤ 1000000 := by rw [hLP]; exact Nat.le_trans (passP_len len f t ts) hn
    have HLPL := hide hlpl
    clear hlpl
    cases hx : (passP len f t ts)[0]? with
    | none =>
      have he : passP len f t ts = [] := List.eq_nil_of_length_eq_zero (by have := List.getElem?_eq_none_iff.1 hx; omega)
      have HE := hide he
      clear hx he hLP
      have hnils : ∀ W : World, Kind.str.Rd W (fun _ => False) none 0 [] := fun W => Kind.Rd.nil _ _ _ _
      have HNILS := hide hnils
      clear hnils
      go_wp2_with (first
        | (go_at_call 9; refine (Passed_ok b1 g1 v1 ts len f t _ HT.out hn (by have := H1.out; omega) (by have := H2.out; omega) (by have := H3.out; omega) (by have := H4.out; omega) (by have := H5.out; omega)).mono ?_; rw [← HLP.out]; rintro e w1 ⟨u1, rfl, q1, q2⟩; obtain ⟨A1, c1, rfl, -, -, -, -, q3⟩ := Kind.Own.form q1; have HA1 := hide q3; have HP1 := hide (below_self HB8.out q2); have HR1 := hide (HR.out.below q2); have HT1 := hide (HT.out.below q2); clear q1 q2 q3)
        | (go_at_call 42; refine (RPassed_ok b2 g2 v2 ts len f t _ HR1.out hn (by have := H1.out; omega) (by have := H2.out; omega) (by have := H3.out; omega) (by have := H4.out; omega) (by have := H5.out; omega)).mono ?_; rw [← HLP.out]; rintro e w2 ⟨u2, rfl, q1, q2⟩; obtain ⟨A2, c2, rfl, -, -, -, -, q3⟩ := Kind.Own.form q1; have HA2 := hide q3; have HA1' := hide (HA1.out.below q2); have HP2 := hide (below_self HP1.out q2); have HR2 := hide (HR1.out.below q2); have HT2 := hide (HT1.out.below q2); clear q1 q2 q3)
        | (go_at_call 38; refine (same_any A1 c1 A2 c2 LP.length LP _ _ _ HLPL.out HA1'.out HA2.out).mono ?_; rintro e w3 ⟨rfl, q2⟩; have HP3 := hide (below_self HP2.out q2); have HR3 := hide (HR2.out.below q2); have HT3 := hide (HT2.out.below q2); clear q2)
        | (go_at_call 17; refine (First_none b1 g1 v1 ts len f t _ HT3.out hn (by have := H1.out; omega) (by have := H2.out; omega) (by have := H3.out; omega) (by have := H4.out; omega) (by have := H5.out; omega) HE.out).mono ?_; rintro e w4 ⟨rfl, q2⟩; have HP4 := hide (below_self HP3.out q2); have HR4 := hide (HR3.out.below q2); clear q2)
        | (go_at_call 43; refine (RFirst_none b2 g2 v2 ts len f t _ HR4.out hn (by have := H1.out; omega) (by have := H2.out; omega) (by have := H3.out; omega) (by have := H4.out; omega) (by have := H5.out; omega) HE.out).mono ?_; rintro e w5 ⟨rfl, q2⟩; have HP5 := hide (below_self HP4.out q2); clear q2)
        | (go_at_call 44; refine (texts_any none 0 none 0 0 [] _ _ _ (Nat.zero_le _) (HNILS.out _) (HNILS.out _)).mono ?_; rintro e w6 ⟨rfl, q2⟩; have HP6 := hide (below_self HP5.out q2); clear q2)
        | (go_at_call 26; refine (Lands_any _ _ _).mono ?_; rw [← HLZ.out, ← HLB.out]; rintro e w' ⟨rfl, rfl⟩)
        | (go_at_call 45; refine (RLands_any _ _ _).mono ?_; rw [← HLZ.out, ← HLB.out]; rintro e w' ⟨rfl, rfl⟩))
      all_goals go_ret
      all_goals exact ⟨by first | rfl | simp, HP6.out⟩
    | some x =>
      obtain ⟨NM, hNM⟩ : ∃ NM, NM = namesP (passP len f t ts) x.at_ := ⟨_, rfl⟩
      have HNM := hide hNM
      have hnml : NM.length ≤ 1000000 := by
        rw [hNM]
        unfold namesP
        rw [List.length_map]
        exact Nat.le_trans (List.length_filter_le _ _) (Nat.le_trans (passP_len len f t ts) hn)
      have HNML := hide hnml
      clear hnml
      have HX := hide hx
      have hxx : (x.at_ != x.at_) = false := by simp
      clear hx hLP hNM
      go_wp2_with (first
        | (go_at_call 9; refine (Passed_ok b1 g1 v1 ts len f t _ HT.out hn (by have := H1.out; omega) (by have := H2.out; omega) (by have := H3.out; omega) (by have := H4.out; omega) (by have := H5.out; omega)).mono ?_; rw [← HLP.out]; rintro e w1 ⟨u1, rfl, q1, q2⟩; obtain ⟨A1, c1, rfl, -, -, -, -, q3⟩ := Kind.Own.form q1; have HA1 := hide q3; have HP1 := hide (below_self HB8.out q2); have HR1 := hide (HR.out.below q2); have HT1 := hide (HT.out.below q2); clear q1 q2 q3)
        | (go_at_call 42; refine (RPassed_ok b2 g2 v2 ts len f t _ HR1.out hn (by have := H1.out; omega) (by have := H2.out; omega) (by have := H3.out; omega) (by have := H4.out; omega) (by have := H5.out; omega)).mono ?_; rw [← HLP.out]; rintro e w2 ⟨u2, rfl, q1, q2⟩; obtain ⟨A2, c2, rfl, -, -, -, -, q3⟩ := Kind.Own.form q1; have HA2 := hide q3; have HA1' := hide (HA1.out.below q2); have HP2 := hide (below_self HP1.out q2); have HR2 := hide (HR1.out.below q2); have HT2 := hide (HT1.out.below q2); clear q1 q2 q3)
        | (go_at_call 38; refine (same_any A1 c1 A2 c2 LP.length LP _ _ _ HLPL.out HA1'.out HA2.out).mono ?_; rintro e w3 ⟨rfl, q2⟩; have HP3 := hide (below_self HP2.out q2); have HR3 := hide (HR2.out.below q2); have HT3 := hide (HT2.out.below q2); clear q2)
        | (go_at_call 17; refine (First_ok b1 g1 v1 ts len f t _ HT3.out hn (by have := H1.out; omega) (by have := H2.out; omega) (by have := H3.out; omega) (by have := H4.out; omega) (by have := H5.out; omega) x HX.out).mono ?_; rw [← HNM.out]; rintro e w4 ⟨u4, rfl, q1, q2⟩; obtain ⟨A4, c4, rfl, -, -, -, -, q3⟩ := Kind.Own.form q1; have HA4 := hide q3; have HP4 := hide (below_self HP3.out q2); have HR4 := hide (HR3.out.below q2); clear q1 q2 q3)
        | (go_at_call 43; refine (RFirst_ok b2 g2 v2 ts len f t _ HR4.out hn (by have := H1.out; omega) (by have := H2.out; omega) (by have := H3.out; omega) (by have := H4.out; omega) (by have := H5.out; omega) x HX.out).mono ?_; rw [← HNM.out]; rintro e w5 ⟨u5, rfl, q1, q2⟩; obtain ⟨A5, c5, rfl, -, -, -, -, q3⟩ := Kind.Own.form q1; have HA5 := hide q3; have HA4' := hide (HA4.out.below q2); have HP5 := hide (below_self HP4.out q2); clear q1 q2 q3)
        | (go_at_call 44; refine (texts_any A4 c4 A5 c5 NM.length NM _ _ _ HNML.out HA4'.out HA5.out).mono ?_; rintro e w6 ⟨rfl, q2⟩; have HP6 := hide (below_self HP5.out q2); clear q2)
        | (go_at_call 26; refine (Lands_any _ _ _).mono ?_; rw [← HLZ.out, ← HLB.out]; rintro e w' ⟨rfl, rfl⟩)
        | (go_at_call 45; refine (RLands_any _ _ _).mono ?_; rw [← HLZ.out, ← HLB.out]; rintro e w' ⟨rfl, rfl⟩))
      all_goals go_ret
      all_goals exact ⟨by first | rfl | simp, HP6.out⟩
end Go.Proofs.Ytpndigonlgnbeaa
