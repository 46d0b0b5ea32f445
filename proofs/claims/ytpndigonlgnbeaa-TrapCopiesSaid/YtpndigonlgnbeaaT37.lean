/- The law TrapCopies: the walk. -/
import Derived.Test.YtpndigonlgnbeaaT36
set_option linter.unusedVariables false
set_option linter.unusedSimpArgs false
namespace Go.Proofs.Ytpndigonlgnbeaa
open Go.RowKit
set_option maxHeartbeats 3200000
set_option maxRecDepth 1000000

theorem TrapCopies_any (A : Option Addr) (n c : Nat) (l : List DeedT) (B : Option Addr) (m d : Nat) (l2 : List DeedT) (len : Int) (w : World) (hA : deedK.Rd w (fun _ => True) A n l) (hn : n ≤ 9223372036854775807) (hB : deedK.Rd w (fun _ => True) B m l2) (hm : m ≤ 9223372036854775807) :
    Calls Try.prog 6 #[.slice A n c, .slice B m d, .int .i64 len] w fun e w' => e = .returned (.bool true) ∧ Below w.heap.size w w' := by
  have HA := hide hA
  have HBB := hide hB
  have hln : l.length = n := hA.1
  have HLN := hide hln
  have hlm : l2.length = m := hB.1
  have HLM := hide hlm
  clear hA hB hln hlm
  by_cases hbig : 200 < n
  · go_enter Try.func6, Try.ntmps6
    go_wp2_with (go_at_call 11; refine (sane_any _).mono ?_; rintro e w9 ⟨rfl, q⟩; have HQ := hide q; clear q)
    go_ret
    exact ⟨rfl, HQ.out⟩
  by_cases hbig2 : 200 < m
  · go_enter Try.func6, Try.ntmps6
    go_wp2_with (go_at_call 11; refine (sane_any _).mono ?_; rintro e w9 ⟨rfl, q⟩; have HQ := hide q; clear q)
    go_ret
    exact ⟨rfl, HQ.out⟩
  go_enter Try.func6, Try.ntmps6
  go_upto_region 4 with (first
    | (go_at_call 12; refine (new_any _).mono ?_; rintro e w1 ⟨rfl, q⟩; have HT1 : Hid (Tab w.heap.size w1 w.heap.size (.slice none 0 0) []) := hide (by rw [q]; exact new_tab w); have HB1 : Hid (Below w.heap.size w w1) := hide (by rw [q]; exact below_one _); clear q)
    | (go_at_call 13; refine (rnew_any _).mono ?_; rintro e w2 ⟨rfl, q⟩; have HR2 : Hid (RTab w1.heap.size w2 w1.heap.size (.slice none 0 0) []) := hide (by rw [q]; exact rnew_tab w1); have HB2 : Hid (Below w1.heap.size w1 w2) := hide (by rw [q]; exact below_one _); clear q))
  have HT2 := hide (HT1.out.below HB2.out)
  have HRR2 := hide (HR2.out.lower HB1.out.size)
  have HBB2 := hide (below_self HB1.out HB2.out)
  generalize hgT : w.heap.size = gT at HT2 HRR2 HBB2 HT1 HB1 HR2 ⊢
  have HGT := hide hgT
  generalize w1.heap.size = gR at HRR2 HB2 HR2 ⊢
  clear HT1 HB1 HB2 HR2 hgT
  go_wp2_with fail
  go_loopw [9] (fun t9 wr => ∃ (i : Nat) (v v' : Value) (ts : List TrapT), t9 = .int .i64 i ∧ i ≤ n ∧ Hid (Tab gT wr gT v ts) ∧ Hid (RTab gT wr gR v' ts) ∧ Hid (ts.length ≤ 100) ∧ Hid (Below gT w wr)) (fun t9 _ => n - (intOf t9).toNat)
  case atStart => exact ⟨0, _, _, [], rfl, Nat.zero_le _, HT2, HRR2, hide (by simp), HBB2⟩
  case round =>
    obtain ⟨i, v, v', ts, rfl, hi, HT, HR, HL, HB⟩ := hrel
    have HL2 := hide (Nat.le_trans HL.out (show 100 ≤ 1000000 by omega))
    have HSZ := hide (Nat.le_of_lt HT.out.lt)
    by_cases hlt : i < n
    · obtain ⟨x, hx⟩ : ∃ x, l[i]? = some x := ⟨_, List.getElem?_eq_getElem (by have := HLN.out; omega)⟩
      obtain ⟨b, off, rfl, hb, hs, p0, p1, p2⟩ := deed_cells HA.out hx
      rw [HGT.out] at hb
      have HZ0 := hide p0
      have HZ1 := hide p1
      have HZ2 := hide p2
      have p0 := cell_below HB.out hb p0
      have p1 := cell_below HB.out hb p1
      have p2 := cell_below HB.out hb p2
      have HS := hide hs
      have HLT := hide hb
      clear hx hs
      go_upto_region 8 with (go_at_call 14
                             refine (do_trap gT gT v ts x _ HT.out HL2.out HSZ.out HS.out).mono ?_
                             rintro e w3 ⟨rfl, v3, q1, q2, -⟩
                             have hb3 : Below gT wr w3 := Tab.kept_below HT.out HSZ.out (Nat.le_refl _) q2
                             have HT3 := hide q1
                             have HR3 := hide (RTab.after_do HT.out HR.out q2)
                             have HB3 := hide (HB.out.trans hb3)
                             clear q1 q2 hb3)
      clear p0 p1 p2
      have p0 := cell_below HB3.out HLT.out HZ0.out
      have p1 := cell_below HB3.out HLT.out HZ1.out
      have p2 := cell_below HB3.out HLT.out HZ2.out
      generalize (doP x ts).1 = r3
      go_wp2_with (go_at_call 15
                   refine (told_tab gT gR v' ts x _ HR3.out HL2.out (Nat.le_of_lt HT3.out.lt) HS.out).mono ?_
                   rintro e w4 ⟨rfl, v4, q1, q2, -⟩
                   have HR4 := hide q1
                   have HT4 := hide (Tab.after_told HT3.out HR3.out q2)
                   have HB4 := hide (HB3.out.trans (RTab.kept_below HR3.out (Nat.le_of_lt HT3.out.lt) (Nat.le_refl _) q2))
                   clear q1 q2)
      go_roundw
      case rel => exact ⟨i + 1, v3, v4, _, by go_num, by omega, HT4, HR4, hide (doP_len HL.out), HB4⟩
      case measure => simp [intOf]; omega
    · obtain ⟨w0, hw0⟩ : ∃ w0, w0 = wr := ⟨_, rfl⟩
      subst hw0
      go_upto_region 10 with (first
        | (go_at_call 20; refine (Copy_trap gT gT v ts _ HT.out (Nat.le_trans HL2.out (by omega))).mono ?_; rintro e w3 ⟨gC, vC, rfl, q1, q2⟩; have HC3 := hide q1; have HT3 := hide (HT.out.below q2); have HR3 := hide (HR.out.below q2); have HB3 := hide q2; clear q1 q2)
        | (go_at_call 21; refine (RCopy_tab gT gR v' ts _ HR3.out HL2.out).mono ?_; rintro e w4 ⟨gY, vY, rfl, q1, q2⟩; have HY4 := hide (q1.lower HB3.out.size); have HC4 := hide (HC3.out.below q2); have HB4 := hide (below_self HB3.out q2); clear q1 q2))
      have HBW := hide (show Below w.heap.size w w0 from by rw [HGT.out]; exact HB.out)
      clear HT3 HR3 HC3 HB3
      generalize hB : w0.heap.size = bs at HY4 HC4 HB4
      have HBS := hide hB
      clear hB
      go_wp2_with fail
      go_loopw [12] (fun t12 wr => ∃ (j : Nat) (u u' : Value) (ts2 : List TrapT), t12 = .int .i64 j ∧ j ≤ m ∧ Hid (Tab bs wr gC u ts2) ∧ Hid (RTab bs wr gY u' ts2) ∧ Hid (ts2.length ≤ 100) ∧ Hid (Below bs w0 wr)) (fun t12 _ => m - (intOf t12).toNat)
      case atStart => exact ⟨0, _, _, ts, rfl, Nat.zero_le _, HC4, HY4, HL, HB4⟩
      case round =>
        obtain ⟨j, u, u', ts2, rfl, hj, HTC, HRC, HLC, HBC⟩ := hrel
        by_cases hjl : j < m
        · obtain ⟨x, hx⟩ : ∃ x, l2[j]? = some x := ⟨_, List.getElem?_eq_getElem (by have := HLM.out; omega)⟩
          obtain ⟨b, off, rfl, hb, hs, p0, p1, p2⟩ := deed_cells (HBB.out.below HBW.out) hx
          rw [HBS.out] at hb
          have HZ0 := hide p0
          have HZ1 := hide p1
          have HZ2 := hide p2
          have p0 := cell_below HBC.out hb p0
          have p1 := cell_below HBC.out hb p1
          have p2 := cell_below HBC.out hb p2
          obtain ⟨r, hr⟩ : ∃ r, r = (doP x ts2).1 := ⟨_, rfl⟩
          have hrr : (r != r) = false := by simp
          have HRS := hide hr
          have HS := hide hs
          clear hx hr hs
          go_upto_region 13 with fail
          have hdr : Below wr.heap.size wr wr.drew := (Below.refl _ _).drew
          have hge : bs ≤ wr.heap.size := Nat.le_trans HTC.out.hg (Nat.le_of_lt HTC.out.lt)
          have HTD := hide (HTC.out.below hdr)
          have HRD := hide (HRC.out.below hdr)
          have hsz : bs ≤ wr.drew.heap.size := hge
          have HSX := hide hsz
          have HLC2 := hide (Nat.le_trans HLC.out (show 100 ≤ 1000000 by omega))
          have HBD := hide (show Below bs w0 wr.drew from HBC.out.trans (hdr.mono hge))
          have HLT := hide hb
          clear hdr hsz hge
          go_region_held3 (fun w' => w'.cell? ⟨b, off + j * 3, none⟩ = some (.int .i64 x.k) ∧ w'.cell? ⟨b, off + j * 3 + 1, none⟩ = some (.int .i64 x.a) ∧ w'.cell? ⟨b, off + j * 3 + 2, none⟩ = some (.string x.s)) (first | go_keep | exact ⟨HX0.out, HX1.out, HX2.out⟩ | exact ⟨HY0.out, HY1.out, HY2.out⟩)
            (first
              | (go_at_call 14
                 refine (do_trap bs gC u ts2 x _ HTD.out HLC2.out HSX.out HS.out).mono ?_
                 rw [← HRS.out]
                 rintro e w5 ⟨rfl, u5, q1, q2, -⟩
                 have hb5 : Below bs wr.drew w5 := Tab.kept_below HTD.out HSX.out (Nat.le_refl _) q2
                 have HT5 := hide q1
                 have HR5 := hide (RTab.after_do HTD.out HRD.out q2)
                 have HB5 := hide (HBD.out.trans hb5)
                 have HX0 := hide (cell_below HB5.out HLT.out HZ0.out)
                 have HX1 := hide (cell_below HB5.out HLT.out HZ1.out)
                 have HX2 := hide (cell_below HB5.out HLT.out HZ2.out)
                 clear q1 q2 hb5)
              | (go_at_call 15
                 refine (told_tab bs gY u' ts2 x _ HR5.out HLC2.out (Nat.le_trans HT5.out.hg (Nat.le_of_lt HT5.out.lt)) HS.out).mono ?_
                 rw [← HRS.out]
                 rintro e w6 ⟨rfl, u6, q1, q2, -⟩
                 have HR6 := hide q1
                 have HT6 := hide (Tab.after_told HT5.out HR5.out q2)
                 have HB6 := hide (HB5.out.trans (RTab.kept_below HR5.out (Nat.le_trans HT5.out.hg (Nat.le_of_lt HT5.out.lt)) (Nat.le_refl _) q2))
                 have HY0 := hide (cell_below HB6.out HLT.out HZ0.out)
                 have HY1 := hide (cell_below HB6.out HLT.out HZ1.out)
                 have HY2 := hide (cell_below HB6.out HLT.out HZ2.out)
                 clear q1 q2))
          go_wp2_with fail
          go_roundw
          case rel => exact ⟨j + 1, u5, u6, _, by go_num, by omega, HT6, HR6, hide (doP_len HLC.out), HB6⟩
          case measure => simp [intOf]; omega
        · have HBX := hide (show Below w0.heap.size w0 wr from by rw [HBS.out]; exact HBC.out)
          have HLC2 := hide (Nat.le_trans HLC.out (show 100 ≤ 1000000 by omega))
          go_wp2_with (first
            | (go_at_call 16; have h5 := HB5.out; clear h5; refine (asked_any gT gT v gT gR v' ts len _ _ _ ((HT.out.below HBX.out).below HB5.out) ((HR.out.below HBX.out).below HB5.out) HL2.out).mono ?_; rintro e w6 ⟨rfl, q⟩; have HB6 := hide (below_self HB5.out q); clear q)
            | (go_at_call 16; refine (asked_any bs gC u bs gY u' ts2 len _ _ _ HTC.out HRC.out HLC2.out).mono ?_; rintro e w5 ⟨rfl, q⟩; have HB5 := hide q; clear q)
            | (go_at_call 11; refine (sane_any _).mono ?_; rintro e w7 ⟨rfl, q⟩; have HB7 := hide (below_self HB6.out q); clear q))
          go_ret
          exact ⟨rfl, below_self (below_self HBW.out HBX.out) HB7.out⟩
end Go.Proofs.Ytpndigonlgnbeaa
