/- The law StoreFull: names, the walk. -/
import Derived.Test.YtbchokjhbjnfcaaS10
import Derived.Laws.IdiomStrings
set_option linter.unusedVariables false
set_option linter.unusedSimpArgs false
namespace Go.Proofs.Ytbchokjhbjnfcaa
open Go.RowKit
set_option maxHeartbeats 3200000
set_option maxRecDepth 1000000

def nm2 (q r : Nat) : ByteArray := ⟨#[UInt8.ofNat (97 + q), UInt8.ofNat (97 + r)]⟩
def nmOf (i : Nat) : ByteArray := ⟨#[110]⟩ ++ nm2 (i / 26) (i % 26)
theorem u8_nat (k : Nat) (h : k ≤ 255) : (UInt8.ofNat k).toNat = k := by
  rw [UInt8.toNat_ofNat']
  omega
theorem conv_two (w : World) (q r : Nat) (hq : q ≤ 25) (hr : r ≤ 25) :
    (convert 32 9 (.slice (some ⟨w.heap.size, 0, none⟩) 2 2)).run Try.prog (w.alloc (.cells #[.int .u8 (97 + (q : Int)), .int .u8 (97 + (r : Int))] 5)) = .ok (.string (nm2 q r)) (w.alloc (.cells #[.int .u8 (97 + (q : Int)), .int .u8 (97 + (r : Int))] 5)) := by
  have hb := blk_new w (.cells #[.int .u8 (97 + (q : Int)), .int .u8 (97 + (r : Int))] 5)
  refine run_convert_bytes_back _ 32 9 5 ⟨w.heap.size, 0, none⟩ 2 [UInt8.ofNat (97 + q), UInt8.ofNat (97 + r)] Try.underlying32 Try.underlying5 Try.underlying9 (fun j hj => ?_)
  have hj2 : j < 2 := hj
  rw [Addr.add_lit, blk_cell hb]
  have : j = 0 ∨ j = 1 := by omega
  rcases this with rfl | rfl
  · show some (Value.int .u8 (97 + (q : Int))) = some (Value.int .u8 ((UInt8.ofNat (97 + q)).toNat : Int))
    rw [u8_nat _ (by omega)]
    rfl
  · show some (Value.int .u8 (97 + (r : Int))) = some (Value.int .u8 ((UInt8.ofNat (97 + r)).toNat : Int))
    rw [u8_nat _ (by omega)]
    rfl
theorem nm_list (i : Nat) : (nmOf i).data.toList = [110, UInt8.ofNat (97 + i / 26), UInt8.ofNat (97 + i % 26)] := by
  unfold nmOf nm2
  rw [ByteArray.data_append, Array.toList_append]
  rfl
theorem nm_size (i : Nat) : (nmOf i).size = 3 := by
  have h := congrArg List.length (nm_list i)
  simpa using h
theorem nm_inj {i j : Nat} (hi : i < 500) (hj : j < 500) (h : nmOf i = nmOf j) : i = j := by
  have h1 := congrArg (fun s => s.data.toList) h
  simp only [nm_list] at h1
  injection h1 with _ h1
  injection h1 with h2 h1
  injection h1 with h3 _
  have e2 := congrArg UInt8.toNat h2
  have e3 := congrArg UInt8.toNat h3
  rw [u8_nat _ (by omega), u8_nat _ (by omega)] at e2 e3
  omega
theorem nm_good_all : (List.range 500).all (fun i => nameB (nmOf i)) = true := by kernel_rfl
theorem nm_good {i : Nat} (h : i < 500) : nameB (nmOf i) = true := List.all_eq_true.1 nm_good_all i (List.mem_range.2 h)
theorem nm_more (i : Nat) : nmOf i ≠ ⟨#[109, 111, 114, 101]⟩ := fun h => by
  have h1 := congrArg (fun s => s.data.toList.length) h
  simp only [nm_list] at h1
  cases h1

theorem StoreFull_any (n : Int) (w : World) : Calls Try.prog 4 #[.int .i64 n] w fun e w' => e = .returned (.bool true) ∧ Below w.heap.size w w' := by
  obtain ⟨z, hz, hz2⟩ : ∃ z : Nat, (IntKind.u64.wrap n).tmod 500 = (z : Int) ∧ z ≤ 499 := by
    have h0 : 0 ≤ IntKind.u64.wrap n := by rw [IntKind.wrap_u64]; omega
    refine ⟨((IntKind.u64.wrap n).tmod 500).toNat, ?_, ?_⟩ <;> (rw [Int.tmod_eq_emod_of_nonneg h0]; omega)
  have HZ := hide hz
  clear hz
  have fx : Hid (fitsB ⟨#[120]⟩ = true) := hide (by kernel_rfl)
  have fy : Hid (fitsB ⟨#[121]⟩ = true) := hide (by kernel_rfl)
  have fz : Hid (fitsB ⟨#[122]⟩ = true) := hide (by kernel_rfl)
  have fe : Hid (fitsB ⟨#[]⟩ = true) := hide (by kernel_rfl)
  have nm : Hid (nameB ⟨#[109, 111, 114, 101]⟩ = true) := hide (by kernel_rfl)
  have nb : Hid (nameB ⟨#[111, 110, 101, 32, 109, 111, 114, 101]⟩ = false) := hide (by kernel_rfl)
  have sx : Hid ((⟨#[120]⟩ : ByteArray).size ≤ 9223372036854775807) := hide (show 1 ≤ 9223372036854775807 by omega)
  have sy : Hid ((⟨#[121]⟩ : ByteArray).size ≤ 9223372036854775807) := hide (show 1 ≤ 9223372036854775807 by omega)
  have sz : Hid ((⟨#[122]⟩ : ByteArray).size ≤ 9223372036854775807) := hide (show 1 ≤ 9223372036854775807 by omega)
  have se : Hid ((⟨#[]⟩ : ByteArray).size ≤ 9223372036854775807) := hide (show 0 ≤ 9223372036854775807 by omega)
  have sm : Hid ((⟨#[109, 111, 114, 101]⟩ : ByteArray).size ≤ 9223372036854775807) := hide (show 4 ≤ 9223372036854775807 by omega)
  have so : Hid ((⟨#[111, 110, 101, 32, 109, 111, 114, 101]⟩ : ByteArray).size ≤ 9223372036854775807) := hide (show 8 ≤ 9223372036854775807 by omega)
  have hwq : ∀ q : Nat, q ≤ 25 → IntKind.u8.wrap (97 + (q : Int)) = 97 + (q : Int) := fun q hq => by unfold IntKind.wrap; simp [IntKind.bits, IntKind.signed]; omega
  have HWQ := hide hwq
  clear hwq
  go_enter Try.func4, Try.ntmps4
  go_upto_region 2 with (go_at_call 10; refine (new_any _).mono ?_; rintro e w1 ⟨rfl, q⟩; have HS1 : Hid (Sto w.heap.size w1 (w.heap.size + 1) w.heap.size (fun _ => none) 0 (fun _ => none)) := hide (by rw [q]; exact new_sto w); have HB1 : Hid (Below w.heap.size w w1) := hide (by rw [q]; exact ((Below.refl _ _).alloc (Nat.le_refl _) _).alloc (by simp) _); clear q)
  go_wp2_with fail
  go_loopw [4] (fun t4 wr => ∃ (i : Nat) (F : ByteArray → Option Nat) (E : Nat → Option EntS), t4 = .int .i64 i ∧ i ≤ 500 ∧ Hid (Sto w.heap.size wr (w.heap.size + 1) w.heap.size F i E) ∧ Hid (∀ s, F s ≠ none → ∃ j, j < i ∧ s = nmOf j) ∧ Hid (∀ j, j < i → F (nmOf j) ≠ none) ∧ Hid (Below w.heap.size w wr)) (fun t4 _ => 500 - (intOf t4).toNat)
  case atStart => exact ⟨0, _, _, rfl, Nat.zero_le _, HS1, hide (fun s h => absurd rfl h), hide (fun j h => absurd h (by omega)), HB1⟩
  case round =>
    obtain ⟨i, F, E, rfl, hi, HS, HF1, HF2, HB⟩ := hrel
    by_cases hlt : i < 500
    · obtain ⟨q, hq⟩ : ∃ q : Nat, q = i / 26 := ⟨_, rfl⟩
      obtain ⟨r, hr⟩ : ∃ r : Nat, r = i % 26 := ⟨_, rfl⟩
      have h1 : (i : Int).tdiv 26 = (q : Int) := by rw [hq]; rfl
      have h2 : (i : Int).tmod 26 = (r : Int) := by rw [hr]; rfl
      have h3 : q ≤ 19 := by omega
      have h4 : r ≤ 25 := by omega
      have h5 := HWQ.out q (by omega)
      have h6 := HWQ.out r h4
      have h7 : (nm2 q r).size = 2 := rfl
      have hcv := conv_two wr q r (by omega) h4
      have HNM := hide (show (⟨#[110]⟩ : ByteArray) ++ nm2 q r = nmOf i by rw [hq, hr]; rfl)
      clear hq hr
      have hal : Below wr.heap.size wr (wr.alloc (.cells #[.int .u8 (97 + (q : Int)), .int .u8 (97 + (r : Int))] 5)) := (Below.refl _ _).alloc (Nat.le_refl _) _
      have HS2 := hide (HS.out.below hal)
      have HB2 := hide (HB.out.trans (hal.mono HB.out.size))
      have hnone : F (nmOf i) = none := by
        cases hf : F (nmOf i) with
        | none => rfl
        | some e =>
          obtain ⟨j, hj, hj2⟩ := HF1.out (nmOf i) (by rw [hf]; exact fun h => by cases h)
          have := nm_inj hlt (by omega) hj2
          omega
      have HNO := hide hnone
      have HSZ := hide (show (nmOf i).size ≤ 9223372036854775807 by rw [nm_size]; omega)
      have HGD := hide (nm_good hlt)
      clear hal hnone
      go_wp2_with (first
        | (go_at_call 11
           rw [HNM.out]
           refine (Define_new HS2.out (nmOf i) ⟨#[120]⟩ HSZ.out sx.out fx.out HGD.out HNO.out hlt HB2.out.size).mono ?_
           rintro e w2 ⟨rfl, eb, x, -, -, hst, hkp⟩
           have HS3 := hide hst
           have HB3 := hide (HB2.out.trans (hkp.below (B := w.heap.size) HB2.out.size (fun i h => by omega)))
           clear hst hkp))
      go_roundw
      case rel => exact ⟨i + 1, upd F (nmOf i) (some eb), updE E eb x, by go_num, by omega, HS3, hide (fun s h => by
          by_cases hs : s = nmOf i
          · exact ⟨i, by omega, hs⟩
          · rw [upd_other _ _ hs] at h
            obtain ⟨j, hj, hj2⟩ := HF1.out s h
            exact ⟨j, by omega, hj2⟩), hide (fun j hj h => by
          by_cases hs : nmOf j = nmOf i
          · rw [hs, upd_same] at h; cases h
          · rw [upd_other _ _ hs] at h
            exact HF2.out j (by have : j ≠ i := fun e => hs (by rw [e]); omega) h), HB3⟩
      case measure => simp [intOf]; omega
    · have hi5 : i = 500 := by omega
      subst hi5
      obtain ⟨q, hq⟩ : ∃ q : Nat, q = z / 26 := ⟨_, rfl⟩
      obtain ⟨r, hr⟩ : ∃ r : Nat, r = z % 26 := ⟨_, rfl⟩
      have h1 : (z : Int).tdiv 26 = (q : Int) := by rw [hq]; rfl
      have h2 : (z : Int).tmod 26 = (r : Int) := by rw [hr]; rfl
      have h3 : q ≤ 19 := by omega
      have h4 : r ≤ 25 := by omega
      have h5 := HWQ.out q (by omega)
      have h6 := HWQ.out r h4
      have h7 : (nm2 q r).size = 2 := rfl
      have hcv := conv_two wr q r (by omega) h4
      have HNM := hide (show (⟨#[110]⟩ : ByteArray) ++ nm2 q r = nmOf z by rw [hq, hr]; rfl)
      clear hq hr
      have hal : Below wr.heap.size wr (wr.alloc (.cells #[.int .u8 (97 + (q : Int)), .int .u8 (97 + (r : Int))] 5)) := (Below.refl _ _).alloc (Nat.le_refl _) _
      have HS2 := hide (HS.out.below hal)
      have HB2 := hide (HB.out.trans (hal.mono HB.out.size))
      have hmore : F ⟨#[109, 111, 114, 101]⟩ = none := by
        cases hf : F ⟨#[109, 111, 114, 101]⟩ with
        | none => rfl
        | some e =>
          obtain ⟨j, hj, hj2⟩ := HF1.out _ (by rw [hf]; exact fun h => by cases h)
          exact absurd hj2.symm (nm_more j)
      obtain ⟨e, he⟩ : ∃ e, F (nmOf z) = some e := by
        cases hf : F (nmOf z) with
        | none => exact absurd hf (HF2.out z (by omega))
        | some e => exact ⟨e, rfl⟩
      obtain ⟨x0, hx0⟩ := HS.out.ent _ _ he
      have HMO := hide hmore
      have HFE := hide he
      have HE0 := hide hx0
      have HSZ := hide (show (nmOf z).size ≤ 9223372036854775807 by rw [nm_size]; omega)
      have HGD := hide (nm_good (show z < 500 by omega))
      have hnm2 := nm_more z
      have HNE := hide hnm2
      have hzz := HZ.out
      clear hal hmore he hx0 hnm2 HF1 HF2 HS HS1
      go_upto_region 9 with fail
      rw [HNM.out]
      generalize (wr.alloc (.cells #[.int .u8 (97 + (q : Int)), .int .u8 (97 + (r : Int))] 5)) = w2 at HS2 HB2 ⊢
      generalize nmOf z = nz at HFE HSZ HGD HNE ⊢
      clear hcv h1 h2 h5 h6 h7 HNM hzz
      go_upto_region 11 with (first
        | (go_at_call 11; have hh := HD1.out; clear hh; refine (Define_full HD1.out ⟨#[109, 111, 114, 101]⟩ ⟨#[120]⟩ sm.out sx.out fx.out nm.out HMO.out (by omega) (by omega)).mono ?_; rintro e9 w4 ⟨rfl, q9⟩; have HD2 := hide (HD1.out.below q9); have HC2 := hide (HC1.out.trans (q9.mono HC1.out.size)); clear q9)
        | (go_at_call 11; refine (Define_name HS2.out ⟨#[111, 110, 101, 32, 109, 111, 114, 101]⟩ ⟨#[120]⟩ so.out sx.out fx.out nb.out).mono ?_; rintro e9 w3 ⟨rfl, q9⟩; have HD1 := hide (HS2.out.below q9); have HC1 := hide (HB2.out.trans (q9.mono HB2.out.size)); clear q9)
        | (go_at_call 14; refine (Alias_full HD2.out ⟨#[109, 111, 114, 101]⟩ nz sm.out HSZ.out nm.out HMO.out HFE.out (by omega) (by omega)).mono ?_; rintro e9 w5 ⟨rfl, q9⟩; have HD3 := hide (HD2.out.below q9); have HC3 := hide (HC2.out.trans (q9.mono HC2.out.size)); clear q9)
        | (go_at_call 15; refine (Macro_full HD3.out ⟨#[109, 111, 114, 101]⟩ sm.out nm.out HMO.out (by omega) (by omega)).mono ?_; rintro e9 w6 ⟨rfl, q9⟩; have HD4 := hide (HD3.out.below q9); have HC4 := hide (HC3.out.trans (q9.mono HC3.out.size)); clear q9)
        | (go_at_call 16; refine (Append_full HD4.out ⟨#[109, 111, 114, 101]⟩ ⟨#[]⟩ sm.out se.out fe.out nm.out HMO.out (by omega) (by omega)).mono ?_; rintro e9 w7 ⟨rfl, q9⟩; have HD5 := hide (HD4.out.below q9); have HC5 := hide (HC4.out.trans (q9.mono HC4.out.size)); clear q9))
      clear HD1 HD2 HD3 HD4 HC1 HC2 HC3 HC4 HS2 HB2
      go_wp2_with (first
        | (go_at_call 11; have hh := HR1.out; clear hh; refine (Define_full HR1.out nz ⟨#[122]⟩ HSZ.out sz.out fz.out HGD.out (by rw [upd_other _ _ HNE.out, upd_same]) (by omega) (by omega)).mono ?_; rintro e9 w10 ⟨rfl, q9⟩; have HC8 := hide (HC7.out.trans (q9.mono HC7.out.size)); clear q9)
        | (go_at_call 11
           refine (Define_old HD5.out nz ⟨#[121]⟩ HSZ.out sy.out fy.out HGD.out HFE.out HE0.out (by omega) HC5.out.size).mono ?_
           rintro e9 w8 ⟨rfl, x1, -, -, hst, hkp⟩
           have HD6 := hide hst
           have HC6 := hide (HC5.out.trans (hkp.below (B := w.heap.size) HC5.out.size (fun i h => by have := (HD5.out.low e x0 HE0.out).1; omega)))
           clear hst hkp)
        | (go_at_call 17
           refine (Rename_ok HD6.out nz ⟨#[109, 111, 114, 101]⟩ HSZ.out sm.out nm.out HFE.out (by omega) (by omega) HMO.out).mono ?_
           rintro e9 w9 ⟨rfl, hst, hkp⟩
           have HR1 := hide hst
           have HC7 := hide (HC6.out.trans (hkp.below (B := w.heap.size) HC6.out.size (fun i h => by omega)))
           clear hst hkp)
        | (go_at_call 9; refine (sane_any _).mono ?_; rintro e9 w11 ⟨rfl, q9⟩; have HC9 := hide (below_self HC8.out q9); clear q9))
      go_ret
      exact ⟨rfl, HC9.out⟩
end Go.Proofs.Ytbchokjhbjnfcaa
