/- The law StoreAliases: its walk. -/
import Derived.Test.YtbchokjhbjnfcaaS32
import Derived.Deep.DeepCutAuto
set_option linter.unusedVariables false
set_option linter.unusedSimpArgs false
namespace Go.Proofs.Ytbchokjhbjnfcaa
open Go.RowKit
set_option maxHeartbeats 1600000
set_option maxRecDepth 1000000
theorem nm2 (j : Nat) (h : j < 2) : nameB ((⟨#[97, 98]⟩ : ByteArray).extract j (j + 1)) = true ∧ ((⟨#[97, 98]⟩ : ByteArray).extract j (j + 1) = ⟨#[97]⟩ ∨ (⟨#[97, 98]⟩ : ByteArray).extract j (j + 1) = ⟨#[98]⟩) ∧ ((⟨#[97, 98]⟩ : ByteArray).extract j (j + 1)).size ≤ 9223372036854775807 := by
  have : j = 0 ∨ j = 1 := by omega
  rcases this with rfl | rfl
  · exact ⟨by kernel_rfl, .inl (by kernel_rfl), by decide +kernel⟩
  · exact ⟨by kernel_rfl, .inr (by kernel_rfl), by decide +kernel⟩
def skipD (k : Int) : Prop := k < 0 ∨ (3 < k ∧ k < 7) ∨ 8 < k
instance (k : Int) : Decidable (skipD k) := inferInstanceAs (Decidable (k < 0 ∨ (3 < k ∧ k < 7) ∨ 8 < k))
theorem deed_cells {w : World} {ok : Nat → Prop} {A : Option Addr} {n i : Nat} {L : List DeedS} {x : DeedS} (h : deedK.Rd w ok A n L) (hx : L[i]? = some x) :
    ∃ b off A5 c5, A = some ⟨b, off, none⟩ ∧ lineK.Rd w ok A5 x.lines.length x.lines ∧ x.tx.size ≤ 9223372036854775807 ∧ w.cell? ⟨b, off + i * 7, none⟩ = some (.int .i64 x.k) ∧ w.cell? ⟨b, off + i * 7 + 1, none⟩ = some (.string x.nm) ∧ w.cell? ⟨b, off + i * 7 + 2, none⟩ = some (.string x.ot) ∧
      w.cell? ⟨b, off + i * 7 + 3, none⟩ = some (.string x.tx) ∧ w.cell? ⟨b, off + i * 7 + 4, none⟩ = some (.slice A5 x.lines.length c5) ∧ w.cell? ⟨b, off + i * 7 + 5, none⟩ = some (.int .i64 x.a) ∧ w.cell? ⟨b, off + i * 7 + 6, none⟩ = some (.int .i64 x.b) := by
  obtain ⟨hi, rfl⟩ := List.getElem?_eq_some_iff.1 hx
  obtain ⟨b, off, cs, e, hb, ⟨A5, c5, rfl, -, -, ht, -, -, hr⟩, hc⟩ := h.at_ hi
  exact ⟨b, off, A5, c5, e, hr, ht, hc 0 _ rfl, hc 1 _ rfl, hc 2 _ rfl, hc 3 _ rfl, hc 4 _ rfl, hc 5 _ rfl, hc 6 _ rfl⟩
theorem StoreAliases_any (A : Option Addr) (n c : Nat) (l : List DeedS) (ok : Nat → Prop) (w : World) (hr : deedK.Rd w ok A n l) (hn : n ≤ 9223372036854775806) (hli : ∀ y ∈ l, y.light) (hns : ∀ y ∈ l, ∀ z ∈ y.lines, ∀ q ∈ z.boxes, q.ns.length ≤ 17592186044416) :
    Calls Try.prog 7 #[.slice A n c] w fun e w' => e = .returned (.bool true) ∧ Below w.heap.size w w' := by
  have HR := hide hr.bound
  have HLN := hide hr.1
  have HNS := hide hns
  have HBIG := hide (big_says A n c l ok w hr hn hli)
  have fe : Hid (fitsB ⟨#[116, 101, 120, 116]⟩ = true) := hide (by kernel_rfl)
  have n1' := hide nameA_ok
  have n2' : Hid (nameB ⟨#[98]⟩ = true) := hide (by kernel_rfl)
  have s1 : Hid ((⟨#[97]⟩ : ByteArray).size ≤ 9223372036854775807) := hide (show 1 ≤ 9223372036854775807 by omega)
  have s2 : Hid ((⟨#[98]⟩ : ByteArray).size ≤ 9223372036854775807) := hide (show 1 ≤ 9223372036854775807 by omega)
  have se : Hid ((⟨#[116, 101, 120, 116]⟩ : ByteArray).size ≤ 9223372036854775807) := hide (show 4 ≤ 9223372036854775807 by omega)
  have HAB : Hid ((⟨#[97]⟩ : ByteArray) ≠ ⟨#[98]⟩) := hide (by decide)
  clear hr hli hns
  go_enter Try.func7, Try.ntmps7
  go_upto_if 11 with (go_at_call 22; refine HBIG.out.mono ?_; rintro e w1 ⟨⟨r, rfl, q1⟩, q2⟩; have HSAY := hide q1; have HB1 := hide q2; clear q1 q2)
  clear HBIG
  cases r with
  | true =>
    go_wp2_with (go_at_call 9; refine (sane_any _).mono ?_; rintro e w9 ⟨rfl, q⟩; have HQ := hide (below_self HB1.out q); clear q)
    go_ret
    exact ⟨rfl, HQ.out⟩
  | false =>
  obtain ⟨h120, h6000⟩ := HSAY.out rfl
  have H6 := hide h6000
  clear h6000 HSAY
  go_upto_region 4 with (go_at_call 10; refine (new_any _).mono ?_; rintro e w2 ⟨rfl, q⟩; have HS2 : Hid (Sto w1.heap.size w2 (w1.heap.size + 1) w1.heap.size (fun _ => none) 0 (fun _ => none)) := hide (by rw [q]; exact new_sto w1); have HB2 : Hid (Below w1.heap.size w1 w2) := hide (by rw [q]; exact ((Below.refl _ _).alloc (Nat.le_refl _) _).alloc (by simp) _); clear q)
  go_upto_region 6 with (first
    | (go_at_call 11
       refine (Define_fresh HS2.out ⟨#[97]⟩ ⟨#[116, 101, 120, 116]⟩ s1.out se.out fe.out n1'.out rfl (by omega) HB2.out.size).mono ?_
       rintro e w3 ⟨rfl, ea, xa, hea, hxa1, hxa2, hst, hkp⟩
       have HS3 := hide hst
       have HB3 := hide (HB2.out.trans (hkp.below (B := w1.heap.size) HB2.out.size (fun i h => by omega)))
       have HGX := hide (good_plain hxa2 (show 4 ≤ 2000 by omega))
       clear hst hkp hxa1 hxa2 hea HS2)
    | (go_at_call 14
       refine (Alias_ok HS3.out ⟨#[98]⟩ ⟨#[97]⟩ s2.out s1.out n2'.out (by rw [upd_other _ _ (fun h => HAB.out h.symm)]) (upd_same _ _ _) (by omega)).mono ?_
       rintro e w4 ⟨rfl, hst, hkp⟩
       have HS4 := hide hst
       have HB4 := hide (HB3.out.trans (hkp.below (B := w1.heap.size) HB3.out.size (fun i h => by omega)))
       clear hst hkp HS3))
  have HFA := hide (show upd (upd (fun _ => none) ⟨#[97]⟩ (some ea)) ⟨#[98]⟩ (some ea) ⟨#[97]⟩ = some ea by rw [upd_other _ _ HAB.out, upd_same])
  have HFB := hide (show upd (upd (fun _ => none) ⟨#[97]⟩ (some ea)) ⟨#[98]⟩ (some ea) ⟨#[98]⟩ = some ea by rw [upd_same])
  generalize upd (upd (fun _ => none) ⟨#[97]⟩ (some ea)) ⟨#[98]⟩ (some ea) = F at HS4 HFA HFB
  have HXa := hide (show updE (fun _ => none) ea xa ea = some xa by rw [updE_same])
  generalize updE (fun _ => none) ea xa = E at HS4 HXa
  obtain ⟨B0, hB0⟩ : ∃ B0, B0 = w1.heap.size := ⟨_, rfl⟩
  rw [← hB0] at HS4 HB4 ⊢
  have hB0w : w.heap.size ≤ B0 := by rw [hB0]; exact HB1.out.size
  have HB0W := hide hB0w
  have HB14 := hide (HB1.out.trans (HB4.out.mono hB0w))
  have HBS := hide HB4.out.size
  clear hB0 hB0w HB2 HB3 HB4 HB1
  go_wp2_with fail
  go_loopw [4, 5, 6, 7, 8, 9] (fun t4 _ _ _ _ _ wr => ∃ (i : Nat) (E : Nat → Option EntS) (x : EntS), t4 = .int .i64 i ∧ i ≤ n ∧ Hid (Sto B0 wr (B0 + 1) B0 F 2 E) ∧ Hid (E ea = some x) ∧ Hid (Good x) ∧ Hid (Below w.heap.size w wr) ∧ Hid (B0 ≤ wr.heap.size)) (fun t4 _ _ _ _ _ _ => n - (intOf t4).toNat)
  case atStart => exact ⟨0, E, xa, rfl, Nat.zero_le _, HS4, HXa, HGX, HB14, hide (by have := HS4.out.map.lt; omega)⟩
  case round =>
    clear HS4 HXa HGX HB14 HBS
    obtain ⟨i, E, x, rfl, hi, HS, HX, HG, HB, HBS⟩ := hrel
    by_cases hlt : i < n
    · obtain ⟨y, hy⟩ : ∃ y, l[i]? = some y := ⟨_, List.getElem?_eq_getElem (by have := HLN.out; omega)⟩
      obtain ⟨b1, o1, A5, c5, rfl, hr5, htx, p0, p1, p2, p3, p4, p5, p6⟩ := deed_cells (HR.out.below HB.out) hy
      have HR5 := hide hr5
      have HN5 := hide (HNS.out y (List.mem_of_getElem? hy))
      have hl6 := H6.out y (List.mem_of_getElem? hy)
      have hlt2 : (i : Int) < (n : Int) := by omega
      clear hy hr5
      go_upto_region 10 with fail
      have hb5 := blk_new wr (.cells #[.int .i64 y.k, .string y.nm, .string y.ot, .string y.tx, .slice A5 y.lines.length c5, .int .i64 y.a, .int .i64 y.b] 44)
      have hbe5 : Below wr.heap.size wr (wr.alloc (.cells #[.int .i64 y.k, .string y.nm, .string y.ot, .string y.tx, .slice A5 y.lines.length c5, .int .i64 y.a, .int .i64 y.b] 44)) := (Below.refl _ _).alloc (Nat.le_refl _) _
      clear p0 p1 p2 p3 p4 p5 p6
      generalize (wr.alloc (.cells #[.int .i64 y.k, .string y.nm, .string y.ot, .string y.tx, .slice A5 y.lines.length c5, .int .i64 y.a, .int .i64 y.b] 44)) = w5 at hb5 hbe5 ⊢
      obtain ⟨D, hD⟩ : ∃ D, D = wr.heap.size := ⟨_, rfl⟩
      rw [← hD] at hb5 ⊢
      have HD := hide hD
      have d0 : w5.cell? ⟨D, 0, none⟩ = some (.int .i64 y.k) := by rw [blk_cell hb5]; rfl
      have HB5 := hide hb5
      have HBE5 := hide hbe5
      clear hb5 hbe5 hD
      go_cut [49] (fun s wx => s = .bool (decide (skipD y.k)) ∧ w5 = wx)
      case first =>
        by_cases c1 : y.k < 0
        · go_wp2_with fail
          go_meet
          exact ⟨congrArg Value.bool (decide_eq_true (.inl c1)).symm, rfl⟩
        · by_cases c2 : 3 < y.k
          · by_cases c3 : y.k < 7
            · go_wp2_with fail
              go_meet
              exact ⟨congrArg Value.bool (decide_eq_true (.inr (.inl ⟨c2, c3⟩))).symm, rfl⟩
            · by_cases c4 : 8 < y.k
              · go_wp2_with fail
                go_meet
                exact ⟨congrArg Value.bool (decide_eq_true (.inr (.inr c4))).symm, rfl⟩
              · go_wp2_with fail
                go_meet
                exact ⟨congrArg Value.bool (decide_eq_false (fun h => by rcases h with h | h | h <;> omega)).symm, rfl⟩
          · have c4 : ¬ 8 < y.k := by omega
            go_wp2_with fail
            go_meet
            exact ⟨congrArg Value.bool (decide_eq_false (fun h => by rcases h with h | h | h <;> omega)).symm, rfl⟩
      case rest =>
      obtain ⟨rfl, rfl⟩ := hcut
      by_cases hsk : skipD y.k
      · rw [decide_eq_true hsk]
        clear d0
        go_wp2_with fail
        go_roundw
        case rel => exact ⟨i + 1, E, x, by go_num, by omega, hide (HS.out.below HBE5.out), HX, HG, hide (below_self HB.out HBE5.out), hide (Nat.le_trans HBS.out HBE5.out.size)⟩
        case measure => simp [intOf]; omega
      · rw [decide_eq_false hsk]
        have hk6 : y.k = 0 ∨ y.k = 1 ∨ y.k = 2 ∨ y.k = 3 ∨ y.k = 7 ∨ y.k = 8 := by
          unfold skipD at hsk
          omega
        have HK6 := hide hk6
        obtain ⟨j, hj, hj2⟩ : ∃ j : Nat, (i : Int).tmod 2 = (j : Int) ∧ j < 2 := ⟨i % 2, by rw [Int.tmod_eq_emod_of_nonneg (by omega)]; omega, by omega⟩
        obtain ⟨m1, m2, m3⟩ := nm2 j hj2
        have d1 : w5.cell? ⟨D, 1, none⟩ = some (.string y.nm) := by rw [blk_cell HB5.out]; rfl
        have zf : w5.frozen? ⟨D, 1, none⟩ = false := blk_frozen HB5.out
        have M1 := hide m1
        have M2 := hide m2
        have M3 := hide m3
        clear hsk hk6 d0 m1 m2 m3
        go_upto_region 12 with fail
        obtain ⟨nm, hnm⟩ : ∃ nm, nm = (⟨#[97, 98]⟩ : ByteArray).extract j (j + 1) := ⟨_, rfl⟩
        rw [← hnm] at M1 M2 M3 ⊢
        have HB6 := hide (blk_set HB5.out 1 (.string nm))
        have hbe6 : Below wr.heap.size wr (w5.setCell ⟨D, 1, none⟩ (.string nm)) := Below.setCell HBE5.out (by rw [HD.out]; exact Nat.le_refl _) _
        have HBE6 := hide hbe6
        clear d1 zf hnm hj hj2 hbe6
        generalize (w5.setCell ⟨D, 1, none⟩ (.string nm)) = w6 at HB6 HBE6 ⊢
        have d0 : w6.cell? ⟨D, 0, none⟩ = some (.int .i64 y.k) := by rw [blk_cell HB6.out]; rfl
        have d1 : w6.cell? ⟨D, 1, none⟩ = some (.string nm) := by rw [blk_cell HB6.out]; rfl
        have d2 : w6.cell? ⟨D, 2, none⟩ = some (.string y.ot) := by rw [blk_cell HB6.out]; rfl
        have d3 : w6.cell? ⟨D, 3, none⟩ = some (.string y.tx) := by rw [blk_cell HB6.out]; rfl
        have d4 : w6.cell? ⟨D, 4, none⟩ = some (.slice A5 y.lines.length c5) := by rw [blk_cell HB6.out]; rfl
        have d5 : w6.cell? ⟨D, 5, none⟩ = some (.int .i64 y.a) := by rw [blk_cell HB6.out]; rfl
        have d6 : w6.cell? ⟨D, 6, none⟩ = some (.int .i64 y.b) := by rw [blk_cell HB6.out]; rfl
        have HS6 := hide (HS.out.below HBE6.out)
        have HFN := hide (show F nm = some ea by rcases M2.out with e | e <;> rw [e]; exact HFA.out; exact HFB.out)
        have HOK := hide (show ∀ k, (ok k ∧ k < w.heap.size) → k ≠ B0 from fun k hk e => by have := HB0W.out; omega)
        obtain ⟨nl, hnl⟩ : ∃ nl, nl = y.lines.length := ⟨_, rfl⟩
        rw [← hnl] at d4 HR5 hl6
        clear hnl
        go_upto_region 13 with (go_at_call 24
                                refine (do_did y.k HS6.out nm y.ot y.tx M3.out htx A5 nl c5 y.lines _ (HR5.out.below HBE6.out) (by omega) HN5.out HOK.out y.a y.b M1.out HFN.out HX.out HG.out (by omega) (Nat.le_trans HBS.out HBE6.out.size) HK6.out).mono ?_
                                rintro e w7 ⟨rr, x', rfl, q1, q2, q3⟩
                                have HS7 := hide q1
                                have HG7 := hide q2
                                have HK7 := hide q3
                                clear q1 q2 q3)
        have hlow := HS6.out.low ea x HX.out
        have HB7 := hide (HB.out.trans ((HBE6.out.mono HB.out.size).trans (HK7.out.below (B := w.heap.size) (Nat.le_trans HB.out.size HBE6.out.size) (fun k hk => by have := HB0W.out; rcases hk with hk | hk <;> omega))))
        have HBS7 := hide (Nat.le_trans HBS.out (Nat.le_trans HBE6.out.size HK7.out.size))
        obtain ⟨E7, hE7⟩ : ∃ E7, E7 = updE E ea x' := ⟨_, rfl⟩
        have HX7 := hide (show E7 ea = some x' by rw [hE7]; exact updE_same _ _ _)
        rw [← hE7] at HS7
        clear d0 d1 d2 d3 d4 d5 d6 hlow HS6 HFN HOK HK7 HBE6 HB6 HB5 HBE5 HS HX HG HB HBS HR5 hE7
        obtain ⟨m, hm⟩ : ∃ m, m = x'.L.length := ⟨_, rfl⟩
        have HM := hide hm
        have hml : m ≤ 2000 := by rw [hm]; exact (HS7.out.each ea x' HX7.out).most
        clear hm
        go_upto_region 14 with (go_at_call 20
                                refine (Lines_some HS7.out ⟨#[97]⟩ s1.out HFA.out HX7.out HG7.out.fair).mono ?_
                                rintro e w8 ⟨v8, rfl, ⟨ok8, A8, c8, rfl, -, -, hr8, -, -, -⟩, q8⟩
                                rw [← HM.out] at hr8
                                rw [← HM.out]
                                have HR8 := hide hr8
                                have HB8 := hide q8
                                have HS8 := hide (HS7.out.below q8)
                                clear hr8 q8)
        go_upto_region 15 with (go_at_call 20
                                refine (Lines_some HS8.out ⟨#[98]⟩ s2.out HFB.out HX7.out HG7.out.fair).mono ?_
                                rintro e w9 ⟨v9, rfl, ⟨ok9, A9, c9, rfl, -, -, hr9, -, -, -⟩, q9⟩
                                rw [← HM.out] at hr9
                                rw [← HM.out]
                                have HR9 := hide hr9
                                have HB9 := hide q9
                                have HS9 := hide (HS8.out.below q9)
                                clear hr9 q9)
        obtain ⟨kd, hkd⟩ : ∃ kd, kd = x'.kind := ⟨_, rfl⟩
        have HKD := hide hkd
        have HKA := hide hkd
        have hie : (kd != kd) = false := by simp
        clear hkd
        go_wp2_with (first
          | (go_at_call 21
             refine (SameLines_any A8 c8 A9 c9 m x'.L _ _ _ (by omega) (HR8.out.below HB9.out) HR9.out HG7.out.fair).mono ?_
             rintro e w10 ⟨rfl, q⟩
             have HB10 := hide q
             have HS10 := hide (HS9.out.below q)
             clear q)
          | (go_at_call 25
             have h9 := HKA.out
             clear HKA
             refine (Kind_some HS10.out ⟨#[97]⟩ s1.out HFA.out HX7.out).mono ?_
             rw [← h9]
             rintro e w' ⟨rfl, rfl⟩
             clear h9)
          | (go_at_call 25
             refine (Kind_some HS10.out ⟨#[98]⟩ s2.out HFB.out HX7.out).mono ?_
             rw [← HKD.out]
             rintro e w' ⟨rfl, rfl⟩))
        go_roundw
        case rel => exact ⟨i + 1, E7, x', by go_num, by omega, HS10, HX7, HG7, hide (HB7.out.trans ((below_self (below_self HB8.out HB9.out) HB10.out).mono HB7.out.size)), hide (Nat.le_trans HBS7.out (below_self (below_self HB8.out HB9.out) HB10.out).size)⟩
        case measure => simp [intOf]; omega
    · have hlt2 : ¬ (i : Int) < (n : Int) := by omega
      obtain ⟨kd, hkd⟩ : ∃ kd, kd = x.kind := ⟨_, rfl⟩
      have hk0 : (kd != 0) = true := by
        rcases (HS.out.each ea x HX.out).kinds with h | h <;> rw [hkd, h] <;> rfl
      have HKD := hide hkd
      clear hkd
      have HFB2 := hide (show upd F ⟨#[97]⟩ none ⟨#[98]⟩ = some ea by rw [upd_other _ _ (fun h => HAB.out h.symm)]; exact HFB.out)
      go_wp2_with (first
        | (go_at_call 28
           refine (Remove_ok HS.out ⟨#[97]⟩ s1.out n1'.out HFA.out).mono ?_
           rintro e w8 ⟨rfl, q1, q2⟩
           have HS8 := hide q1
           have HB8 := hide (HB.out.trans (q2.below (B := w.heap.size) HB.out.size (fun k hk => by have := HB0W.out; omega)))
           clear q1 q2)
        | (go_at_call 25
           have h9 := HKD.out
           clear HKD
           refine (Kind_some HS8.out ⟨#[98]⟩ s2.out HFB2.out HX.out).mono ?_
           rw [← h9]
           rintro e w' ⟨rfl, rfl⟩
           clear h9)
        | (go_at_call 25
           refine (Kind_none HS8.out ⟨#[97]⟩ s1.out (upd_same _ _ _)).mono ?_
           rintro e w' ⟨rfl, rfl⟩)
        | (go_at_call 9; refine (sane_any _).mono ?_; rintro e w9 ⟨rfl, q⟩; have HQ := hide (HB8.out.trans (q.mono HB8.out.size)); clear q))
      go_ret
      exact ⟨rfl, HQ.out⟩
end Go.Proofs.Ytbchokjhbjnfcaa
