/- The law's deeds at a name that is there; big, with what it says. -/
import Derived.Test.YtbchokjhbjnfcaaS31
import Derived.Test.YtbchokjhbjnfcaaS13
set_option linter.unusedVariables false
set_option linter.unusedSimpArgs false
namespace Go.Proofs.Ytbchokjhbjnfcaa
open Go.RowKit
set_option maxHeartbeats 3200000
set_option maxRecDepth 1000000
theorem do_did {base : Nat} {w : World} {g b : Nat} {F : ByteArray → Option Nat} {sz : Nat} {E : Nat → Option EntS} {e : Nat} {x : EntS} (k : Int) (h : Sto base w g b F sz E) (nm ot tx : ByteArray) (hs : nm.size ≤ 9223372036854775807) (ht : tx.size ≤ 9223372036854775807) (A : Option Addr) (n c : Nat) (L : List LineT) (ok : Nat → Prop) (hr : lineK.Rd w ok A n L) (hn : n ≤ 100000) (hfn : ∀ y ∈ L, ∀ z ∈ y.boxes, z.ns.length ≤ 17592186044416) (hok : ∀ k, ok k → k ≠ b) (u v : Int)
    (hnm : nameB nm = true) (hf : F nm = some e) (he : E e = some x) (hx : Good x) (hsz2 : sz ≤ 1000000) (hbase : base ≤ w.heap.size) (hk : k = 0 ∨ k = 1 ∨ k = 2 ∨ k = 3 ∨ k = 7 ∨ k = 8) :
    Calls Try.prog 24 #[.pointer (some ⟨g, 0, none⟩), .agg #[.int .i64 k, .string nm, .string ot, .string tx, .slice A n c, .int .i64 u, .int .i64 v]] w (Did base w g b F sz E e x) := by
  have hal : Below w.heap.size w (w.alloc (.cells #[.int .i64 k, .string nm, .string ot, .string tx, .slice A n c, .int .i64 u, .int .i64 v] 44)) := (Below.refl _ _).alloc (Nat.le_refl _) _
  have HAL := hide hal
  have H := hide (h.below hal)
  have HR := hide (hr.below hal)
  have HFN := hide hfn
  have HOK := hide hok
  have HNM := hide hnm
  have HF := hide hf
  have HE := hide he
  have HX := hide hx
  have HBA := hide (Nat.le_trans hbase hal.size)
  clear h hr hfn hok hnm hf he hx hal hbase
  rcases hk with rfl | rfl | rfl | rfl | rfl | rfl
  · go_enter Try.func24, Try.ntmps24
    go_wp2_with (go_at_call 11; refine (Define_did H.out nm tx hs ht HNM.out HF.out HE.out HX.out hsz2 HBA.out).mono ?_; rintro r w2 ⟨rr, x', rfl, q1, q2, q3⟩; have Q1 := hide q1; have Q2 := hide q2; have Q3 := hide q3; clear q1 q2 q3)
    go_ret
    exact ⟨rr, x', rfl, Q1.out, Q2.out, (Kept.of_below (S := fun _ => False) HAL.out).trans Q3.out (fun _ _ h => h.elim) (fun _ _ h => h)⟩
  · go_enter Try.func24, Try.ntmps24
    go_wp2_with (go_at_call 16; refine (Append_did H.out nm tx hs ht HNM.out HF.out HE.out HX.out hsz2 HBA.out).mono ?_; rintro r w2 ⟨rr, x', rfl, q1, q2, q3⟩; have Q1 := hide q1; have Q2 := hide q2; have Q3 := hide q3; clear q1 q2 q3)
    go_ret
    exact ⟨rr, x', rfl, Q1.out, Q2.out, (Kept.of_below (S := fun _ => False) HAL.out).trans Q3.out (fun _ _ h => h.elim) (fun _ _ h => h)⟩
  · go_enter Try.func24, Try.ntmps24
    go_wp2_with (go_at_call 15; refine (Macro_did H.out nm hs A n c L ok HR.out (by omega) HFN.out HOK.out HNM.out HF.out HE.out HX.out hsz2 HBA.out).mono ?_; rintro r w2 ⟨rr, x', rfl, q1, q2, q3⟩; have Q1 := hide q1; have Q2 := hide q2; have Q3 := hide q3; clear q1 q2 q3)
    go_ret
    exact ⟨rr, x', rfl, Q1.out, Q2.out, (Kept.of_below (S := fun _ => False) HAL.out).trans Q3.out (fun _ _ h => h.elim) (fun _ _ h => h)⟩
  · go_enter Try.func24, Try.ntmps24
    go_wp2_with (go_at_call 19; refine (Add_did H.out nm hs A n c L ok HR.out hn HFN.out HOK.out HNM.out HF.out HE.out HX.out hsz2 HBA.out).mono ?_; rintro r w2 ⟨rr, x', rfl, q1, q2, q3⟩; have Q1 := hide q1; have Q2 := hide q2; have Q3 := hide q3; clear q1 q2 q3)
    go_ret
    exact ⟨rr, x', rfl, Q1.out, Q2.out, (Kept.of_below (S := fun _ => False) HAL.out).trans Q3.out (fun _ _ h => h.elim) (fun _ _ h => h)⟩
  · go_enter Try.func24, Try.ntmps24
    go_wp2_with (go_at_call 45; refine (Chop_did H.out nm hs HF.out HE.out HX.out).mono ?_; rintro r w2 ⟨rr, x', rfl, q1, q2, q3⟩; have Q1 := hide q1; have Q2 := hide q2; have Q3 := hide q3; clear q1 q2 q3)
    go_ret
    exact ⟨rr, x', rfl, Q1.out, Q2.out, (Kept.of_below (S := fun _ => False) HAL.out).trans Q3.out (fun _ _ h => h.elim) (fun _ _ h => h)⟩
  · go_enter Try.func24, Try.ntmps24
    go_wp2_with (go_at_call 12; refine (Part_did H.out nm hs HF.out HE.out HX.out u v).mono ?_; rintro r w2 ⟨rr, x', rfl, q1, q2, q3⟩; have Q1 := hide q1; have Q2 := hide q2; have Q3 := hide q3; clear q1 q2 q3)
    go_ret
    exact ⟨rr, x', rfl, Q1.out, Q2.out, (Kept.of_below (S := fun _ => False) HAL.out).trans Q3.out (fun _ _ h => h.elim) (fun _ _ h => h)⟩
/-- What big says. -/
def BigSays (n : Nat) (l : List DeedS) (e : Ending) : Prop := ∃ r : Bool, e = .returned (.bool r) ∧ (r = false → n ≤ 120 ∧ ∀ y ∈ l, y.lines.length < 6000)
theorem w64_in (n : Int) (h : -9223372036854775808 ≤ n ∧ n ≤ 9223372036854775807) : wrap64 n = n := by unfold wrap64; omega
theorem all_next {l : List DeedS} {i : Nat} {m m3 : Int} {x : DeedS} (h : ∀ (j : Nat) (y : DeedS), j < i → l[j]? = some y → (y.lines.length : Int) ≤ m) (hx : l[i]? = some x) (h1 : m ≤ m3) (h2 : (x.lines.length : Int) ≤ m3) : ∀ (j : Nat) (y : DeedS), j < i + 1 → l[j]? = some y → (y.lines.length : Int) ≤ m3 := fun j y hj hy => by
  rcases Nat.lt_or_ge j i with h3 | h3
  · exact Int.le_trans (h j y h3 hy) h1
  · obtain rfl : j = i := by omega
    rw [hx] at hy
    obtain rfl := Option.some.inj hy
    exact h2
/-- Sizes that memory bears. -/
def DeedS.light (y : DeedS) : Prop := y.tx.size ≤ 281474976710656 ∧ y.lines.length ≤ 281474976710656 ∧ ∀ z ∈ y.lines, z.text.size ≤ 281474976710656 ∧ z.boxes.length ≤ 281474976710656
theorem big_says (A : Option Addr) (n c : Nat) (l : List DeedS) (ok : Nat → Prop) (w : World) (hr : deedK.Rd w ok A n l) (hn : n ≤ 9223372036854775806) (hli : ∀ y ∈ l, y.light) :
    Calls Try.prog 22 #[.slice A n c] w fun e w' => BigSays n l e ∧ Below w.heap.size w w' := by
  have HLI := hide hli
  clear hli
  have HR := hide hr
  have hln : l.length = n := hr.1
  have HLN := hide hln
  clear hr hln
  go_enter Try.func22, Try.ntmps22
  go_wp2_with fail
  go_loopw [3, 4, 5] (fun t3 t4 _ wr => ∃ (m : Int) (i : Nat), t3 = .int .i64 m ∧ t4 = .int .i64 i ∧ i ≤ n ∧ Hid (0 ≤ m ∧ m ≤ 1125899906842624) ∧ Hid (∀ (j : Nat) (y : DeedS), j < i → l[j]? = some y → (y.lines.length : Int) ≤ m) ∧ Hid (Below w.heap.size w wr)) (fun _ t4 _ _ => n - (intOf t4).toNat)
  case atStart => exact ⟨0, 0, rfl, rfl, Nat.zero_le _, hide ⟨Int.le_refl _, by omega⟩, hide (fun j y hj => absurd hj (Nat.not_lt_zero _)), hide (Below.refl _ _)⟩
  case round =>
    obtain ⟨m, i, rfl, rfl, hi, HMB, HAL, HB⟩ := hrel
    by_cases hlt : i < n ∧ m < 6000
    · obtain ⟨hlt, hm⟩ := hlt
      obtain ⟨x, hx⟩ : ∃ x, l[i]? = some x := ⟨_, List.getElem?_eq_getElem (by have := HLN.out; omega)⟩
      have HXX := hide hx
      have HLX := hide (HLI.out x (List.mem_of_getElem? hx))
      obtain ⟨hil, hxe⟩ := List.getElem?_eq_some_iff.1 hx
      obtain ⟨b, off, cs, rfl, hbl, ⟨A2, c2, rfl, h1, h2, h3, h4, h5, hr2⟩, hcell⟩ := (HR.out.below HB.out).at_ hil
      rw [hxe] at h1 h2 h3 h4 hr2 hcell
      clear hxe
      have p3 : wr.cell? ⟨b, off + i * 7 + 3, none⟩ = some (.string x.tx) := hcell 3 _ rfl
      have p4 : wr.cell? ⟨b, off + i * 7 + 4, none⟩ = some (.slice A2 x.lines.length c2) := hcell 4 _ rfl
      have HP4 := hide p4
      have HL2 := hide hr2
      have C3 := cell_after p3
      have C4 := cell_after p4
      clear hx hcell p3 p4 hr2
      go_upto_region 5 with fail
      have jz1 : (i : Int) < (n : Int) := by omega
      refine wp_region_after (by kernel_rfl) (by kernel_rfl) ?_
      repeat (go_big_quiet_step (fail))
      refine wpQuiet_nil ?_
      intro _ hw'
      obtain ⟨q, rfl⟩ := hw'
      have HQ := hide q.h
      clear C3 C4
      generalize q.W = wq at HQ ⊢
      obtain ⟨m2, hm2⟩ : ∃ m2, m2 = wrap64 (m + wrap64 ((x.tx.size : Int) + (x.lines.length : Int))) := ⟨_, rfl⟩
      rw [← hm2]
      have hb2 : m ≤ m2 ∧ (x.lines.length : Int) ≤ m2 ∧ m2 ≤ 1125899906842624 := by
        obtain ⟨l1, l2, -⟩ := HLX.out
        have l3 := HMB.out
        rw [hm2, w64_in ((x.tx.size : Int) + (x.lines.length : Int)) (by omega), w64_in _ (by omega)]
        omega
      have HM2 := hide hb2
      clear hm2 hb2
      have HB2 := hide (below_self HB.out HQ.out)
      have HL3 := hide (HL2.out.below HQ.out)
      have HP5 := hide (cell_below0 HQ.out HP4.out)
      go_wp2_with fail
      go_loopw [3, 5] (fun t3 t5 wx => ∃ (m3 : Int) (j : Nat), t3 = .int .i64 m3 ∧ t5 = .int .i64 j ∧ j ≤ x.lines.length ∧ Hid (m2 ≤ m3 ∧ m3 ≤ 1125899906842624) ∧ Hid (Below wq.heap.size wq wx)) (fun _ t5 _ => x.lines.length - (intOf t5).toNat)
      case atStart => exact ⟨m2, 0, rfl, rfl, Nat.zero_le _, hide ⟨Int.le_refl _, HM2.out.2.2⟩, hide (Below.refl _ _)⟩
      case round =>
        obtain ⟨m3, j, rfl, rfl, hj, HM3, HX⟩ := hrel
        have p4 := cell_below0 HX.out HP5.out
        by_cases hjl : j < x.lines.length ∧ m3 < 6000
        · obtain ⟨hjl, hm3⟩ := hjl
          have H6 := hide hm3
          obtain ⟨b2, o2, cs2, e2, hbl2, ⟨A3, c3, rfl, h6, h7, h8, -⟩, hcell2⟩ := (HL3.out.below HX.out).at_ hjl
          subst e2
          have HLY := hide (HLX.out.2.2 x.lines[j] (List.getElem_mem _))
          generalize x.lines[j] = y at hcell2 h6 h7 HLY
          have r0 : wr.cell? ⟨b2, o2 + j * 5, none⟩ = some (.string y.text) := hcell2 0 _ rfl
          have r4 : wr.cell? ⟨b2, o2 + j * 5 + 4, none⟩ = some (.slice A3 y.boxes.length c3) := hcell2 4 _ rfl
          clear hcell2
          have R0 := hide r0
          have R4 := hide r4
          clear r0 r4
          go_upto_region 9 with fail
          have C3 := cell_after p4
          have C4 := cell_after R0.out
          have C5 := cell_after R4.out
          clear p4
          have jz1 : (i : Int) < (n : Int) := by omega
          have jz2 : (j : Int) < (x.lines.length : Int) := by omega
          refine wp_region_after (by kernel_rfl) (by kernel_rfl) ?_
          repeat (go_big_quiet_step (fail))
          refine wpQuiet_nil ?_
          intro _ hw'
          obtain ⟨q2, rfl⟩ := hw'
          have HQ2 := hide q2.h
          clear C3 C4 C5
          generalize q2.W = wq2 at HQ2 ⊢
          obtain ⟨m4, hm4⟩ : ∃ m4, m4 = wrap64 (m3 + wrap64 ((y.text.size : Int) + (y.boxes.length : Int))) := ⟨_, rfl⟩
          rw [← hm4]
          have hb4 : m2 ≤ m4 ∧ m4 ≤ 1125899906842624 := by
            obtain ⟨l1, l2⟩ := HLY.out
            have l3 := HM3.out
            have l4 := HM2.out
            have l5 := HMB.out
            have l6 := H6.out
            rw [hm4, w64_in ((y.text.size : Int) + (y.boxes.length : Int)) (by omega), w64_in _ (by omega)]
            omega
          have HM4 := hide hb4
          clear hm4 hb4
          go_wp2_with fail
          go_roundw
          case rel => exact ⟨m4, j + 1, rfl, by go_num, by omega, HM4, hide (below_self HX.out HQ2.out)⟩
          case measure => simp [intOf]; omega
        · by_cases hjl2 : j < x.lines.length
          · have hm3 : ¬ m3 < 6000 := fun h => hjl ⟨hjl2, h⟩
            clear hjl
            go_wp2_with fail
            go_roundw
            case rel => exact ⟨m3, i + 1, rfl, by go_num, by omega, hide ⟨by have := HMB.out; have := HM2.out; have := HM3.out; omega, HM3.out.2⟩, hide (all_next HAL.out HXX.out (by have := HM2.out; have := HM3.out; omega) (by have := HM2.out; have := HM3.out; omega)), hide (below_self HB2.out HX.out)⟩
            case measure => simp [intOf]; omega
          · clear hjl
            go_wp2_with fail
            go_roundw
            case rel => exact ⟨m3, i + 1, rfl, by go_num, by omega, hide ⟨by have := HMB.out; have := HM2.out; have := HM3.out; omega, HM3.out.2⟩, hide (all_next HAL.out HXX.out (by have := HM2.out; have := HM3.out; omega) (by have := HM2.out; have := HM3.out; omega)), hide (below_self HB2.out HX.out)⟩
            case measure => simp [intOf]; omega
    · have HLT := hide hlt
      by_cases hlt2 : i < n
      · have hm : ¬ m < 6000 := fun h => hlt ⟨hlt2, h⟩
        clear hlt
        go_wp2_with fail
        go_ret
        exact ⟨⟨_, rfl, fun h => by cases h⟩, HB.out⟩
      · clear hlt
        by_cases hm : 6000 ≤ m
        · go_wp2_with fail
          go_ret
          exact ⟨⟨_, rfl, fun h => by cases h⟩, HB.out⟩
        · have HMM := hide hm
          have HL2 := hide hlt2
          go_wp2_with fail
          go_ret
          refine ⟨⟨_, rfl, fun h => ?_⟩, HB.out⟩
          have h120 : ¬ (120 : Int) < (n : Int) := by simpa using h
          refine ⟨by omega, fun y hy => ?_⟩
          obtain ⟨j, hj, rfl⟩ := List.mem_iff_getElem.1 hy
          have := HAL.out j _ (by have := HLN.out; have := HL2.out; omega) (List.getElem?_eq_getElem hj)
          have := HMM.out
          omega
end Go.Proofs.Ytbchokjhbjnfcaa
