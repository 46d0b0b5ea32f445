/- frisketref16.Valid: it tells what env.Valid tells. -/
import Derived.Test.YtekkjieoikgpmaaE45
import Derived.Test.YtekkjieoikgpmaaE46
set_option linter.unusedVariables false
set_option linter.unusedSimpArgs false
namespace Go.Proofs.Ytekkjieoikgpmaa
open Go.RowKit
set_option maxHeartbeats 3200000
set_option maxRecDepth 1000000

/-- Texts of a size that memory bears. -/
def EnvT.strs (x : EnvT) : Prop := x.tab.size ≤ 9223372036854775807 ∧ x.leader.size ≤ 9223372036854775807 ∧ x.margin.size ≤ 9223372036854775807 ∧ ∀ y ∈ x.row, y.f4.size ≤ 9223372036854775807 ∧ y.f5.size ≤ 9223372036854775807
def modeQ (b : UInt8) : Bool := ((b.toNat : Int) == 108) || (((b.toNat : Int) == 114) || (((b.toNat : Int) == 99) || ((b.toNat : Int) == 98)))
theorem inB_mode (b : UInt8) : inB [108, 114, 99, 98] b = modeQ b := by
  have h : ∀ n : Fin 256, inB [108, 114, 99, 98] (UInt8.ofNat n.val) = modeQ (UInt8.ofNat n.val) := by decide
  have := h ⟨b.toNat, b.toNat_lt⟩
  rwa [show UInt8.ofNat b.toNat = b from UInt8.ofNat_toNat] at this
def vq1 (x : EnvT) : Bool := withinB x.font 0 99 && (withinB x.lastFont 0 99 && (withinB x.size 1 1000 && (withinB x.lastSize 1 1000)))
def vq2 (x : EnvT) : Bool := withinB x.vs 0 100000 && (withinB x.ls 1 100 && (withinB x.length 0 1000000 && (withinB x.title 0 1000000)))
def vq3 (x : EnvT) : Bool := withinB x.indent 0 1000000 && (withinB x.temp (-1) 1000000 && (modeQ x.mode))
def vq4 (x : EnvT) : Bool := withinB x.centre 0 1000000 && (withinB x.under 0 1000000 && (withinB x.cross 0 1000000 && (withinB x.space 0 100 && (withinB x.sentence 0 100))))
def vq5 (x : EnvT) : Bool := stopsB x.stops x.every && (textB x.tab 10 && (textB x.leader 10 && (textB x.margin 10 && (textB x.colour 20 && (textB x.lastColour 20)))))
def vq6 (x : EnvT) : Bool := withinB x.marginAt 0 1000000 && (marginB x.next x.nevery x.nspace x.nindent x.nskip && (withinB x.before 0 1000000 && (withinB x.after 0 1000000 && (decide (x.row.length ≤ 5000)))))
theorem validE_chain (x : EnvT) : validE x = (vq1 x && (vq2 x && (vq3 x && (vq4 x && (vq5 x && (vq6 x && x.row.all validB)))))) := by
  unfold validE vq1 vq2 vq3 vq4 vq5 vq6
  rw [inB_mode]
  have hl : withinB (x.row.length : Int) 0 5000 = decide (x.row.length ≤ 5000) := by
    unfold withinB
    rw [decide_eq_true (by omega : (0 : Int) ≤ (x.row.length : Int)), Bool.true_and, Bool.eq_iff_iff]
    simp
    omega
  have hs : (spansOf x).all inSpan = (withinB x.font 0 99 && (withinB x.lastFont 0 99 && (withinB x.size 1 1000 && (withinB x.lastSize 1 1000 && (withinB x.vs 0 100000 && (withinB x.ls 1 100 && (withinB x.length 0 1000000 && (withinB x.title 0 1000000 && (withinB x.indent 0 1000000 && (withinB x.temp (-1) 1000000 && (withinB x.centre 0 1000000 && (withinB x.under 0 1000000 && (withinB x.cross 0 1000000 && (withinB x.space 0 100 && (withinB x.sentence 0 100 && (withinB x.marginAt 0 1000000 && (withinB x.before 0 1000000 && (withinB x.after 0 1000000 && decide (x.row.length ≤ 5000))))))))))))))))))) := by
    rw [← hl]
    unfold spansOf
    simp only [List.all_cons, List.all_nil, Bool.and_true]
    rfl
  rw [hs]
  simp only [List.all_cons, List.all_nil, Bool.and_true]
  ac_rfl
theorem refValid16_any (x : EnvT) (cs : List Value) (ok : Nat → Prop) (w : World) (hK : envK.K w ok x cs) (hs : x.small) (ht : x.strs) :
    Calls Try.prog 15 #[.agg cs.toArray] w fun e w' => e = .returned (.bool (validE x)) ∧ Below w.heap.size w w' := by
  obtain ⟨u, v, rfl, ⟨A1, c1, rfl, hl1, hc1, hr1⟩, ⟨A2, c2, rfl, hl2, hc2, hr2⟩⟩ := hK
  obtain ⟨hs1, hs2, hs3⟩ := hs
  obtain ⟨ht1, ht2, ht3, ht4⟩ := ht
  have HVX := hide (validE_chain x)
  have HS3 := hide hs3
  have HT4 := hide ht4
  have HT1 := hide ht1
  have HT2 := hide ht2
  have HT3 := hide ht3
  have HR1 := hide hr1
  have HR2 := hide hr2
  clear hr1 hr2 hs3 ht1 ht2 ht3 ht4
  go_enter Try.func15, Try.ntmps15
  go_upto_region 1 with fail
  refine wp_one ?_
  intro W0 hb hbel hsz
  have HB := hide hb
  have HBEL := hide hbel
  clear hb hbel hsz
  go_upto_region 1 with fail
  go_cut [3] (fun s wx => s = .bool (vq1 x) ∧ W0 = wx)
  case first =>
    as_aux_lemma =>
      have z0 : W0.cell? ⟨w.heap.size, 0, none⟩ = some (.int .i64 x.font) := by rw [blk_cell HB.out]; rfl
      have z1 : W0.cell? ⟨w.heap.size, 1, none⟩ = some (.int .i64 x.lastFont) := by rw [blk_cell HB.out]; rfl
      have z2 : W0.cell? ⟨w.heap.size, 2, none⟩ = some (.int .i64 x.size) := by rw [blk_cell HB.out]; rfl
      have z3 : W0.cell? ⟨w.heap.size, 3, none⟩ = some (.int .i64 x.lastSize) := by rw [blk_cell HB.out]; rfl
      cases h0 : withinB x.font 0 99 with
      | false =>
        have HV := hide (show vq1 x = false by unfold vq1; rw [h0]; rfl)
        go_wp2_with (go_at_call 41; refine (refWithin_any _ _ _ _).mono ?_; rintro e w' ⟨rfl, rfl⟩)
        go_meet
        exact ⟨by rw [HV.out], rfl⟩
      | true =>
        cases h1 : withinB x.lastFont 0 99 with
        | false =>
          have HV := hide (show vq1 x = false by unfold vq1; rw [h0, h1]; rfl)
          go_wp2_with (go_at_call 41; refine (refWithin_any _ _ _ _).mono ?_; rintro e w' ⟨rfl, rfl⟩)
          go_meet
          exact ⟨by rw [HV.out], rfl⟩
        | true =>
          cases h2 : withinB x.size 1 1000 with
          | false =>
            have HV := hide (show vq1 x = false by unfold vq1; rw [h0, h1, h2]; rfl)
            go_wp2_with (go_at_call 41; refine (refWithin_any _ _ _ _).mono ?_; rintro e w' ⟨rfl, rfl⟩)
            go_meet
            exact ⟨by rw [HV.out], rfl⟩
          | true =>
            cases h3 : withinB x.lastSize 1 1000 with
            | false =>
              have HV := hide (show vq1 x = false by unfold vq1; rw [h0, h1, h2, h3]; rfl)
              go_wp2_with (go_at_call 41; refine (refWithin_any _ _ _ _).mono ?_; rintro e w' ⟨rfl, rfl⟩)
              go_meet
              exact ⟨by rw [HV.out], rfl⟩
            | true =>
              have HV := hide (show vq1 x = true by unfold vq1; rw [h0, h1, h2, h3]; rfl)
              go_wp2_with (go_at_call 41; refine (refWithin_any _ _ _ _).mono ?_; rintro e w' ⟨rfl, rfl⟩)
              go_meet
              exact ⟨by rw [HV.out], rfl⟩
  obtain ⟨rfl, rfl⟩ := hcut
  obtain ⟨b1, hb1⟩ : ∃ b1, b1 = (vq1 x) := ⟨_, rfl⟩
  rw [← hb1]
  have HB1 := hide hb1
  clear hb1
  go_upto_region 2 with fail
  go_cut [3] (fun s wx => s = .bool (b1 && vq2 x) ∧ W0 = wx)
  case first =>
    as_aux_lemma =>
      have z4 : W0.cell? ⟨w.heap.size, 4, none⟩ = some (.int .i64 x.vs) := by rw [blk_cell HB.out]; rfl
      have z5 : W0.cell? ⟨w.heap.size, 5, none⟩ = some (.int .i64 x.ls) := by rw [blk_cell HB.out]; rfl
      have z6 : W0.cell? ⟨w.heap.size, 6, none⟩ = some (.int .i64 x.length) := by rw [blk_cell HB.out]; rfl
      have z7 : W0.cell? ⟨w.heap.size, 7, none⟩ = some (.int .i64 x.title) := by rw [blk_cell HB.out]; rfl
      cases b1 with
      | false =>
        go_wp2_with fail
        go_meet
        exact ⟨rfl, rfl⟩
      | true =>
        cases h0 : withinB x.vs 0 100000 with
        | false =>
          have HV := hide (show vq2 x = false by unfold vq2; rw [h0]; rfl)
          go_wp2_with (go_at_call 41; refine (refWithin_any _ _ _ _).mono ?_; rintro e w' ⟨rfl, rfl⟩)
          go_meet
          exact ⟨by rw [HV.out]; rfl, rfl⟩
        | true =>
          cases h1 : withinB x.ls 1 100 with
          | false =>
            have HV := hide (show vq2 x = false by unfold vq2; rw [h0, h1]; rfl)
            go_wp2_with (go_at_call 41; refine (refWithin_any _ _ _ _).mono ?_; rintro e w' ⟨rfl, rfl⟩)
            go_meet
            exact ⟨by rw [HV.out]; rfl, rfl⟩
          | true =>
            cases h2 : withinB x.length 0 1000000 with
            | false =>
              have HV := hide (show vq2 x = false by unfold vq2; rw [h0, h1, h2]; rfl)
              go_wp2_with (go_at_call 41; refine (refWithin_any _ _ _ _).mono ?_; rintro e w' ⟨rfl, rfl⟩)
              go_meet
              exact ⟨by rw [HV.out]; rfl, rfl⟩
            | true =>
              cases h3 : withinB x.title 0 1000000 with
              | false =>
                have HV := hide (show vq2 x = false by unfold vq2; rw [h0, h1, h2, h3]; rfl)
                go_wp2_with (go_at_call 41; refine (refWithin_any _ _ _ _).mono ?_; rintro e w' ⟨rfl, rfl⟩)
                go_meet
                exact ⟨by rw [HV.out]; rfl, rfl⟩
              | true =>
                have HV := hide (show vq2 x = true by unfold vq2; rw [h0, h1, h2, h3]; rfl)
                go_wp2_with (go_at_call 41; refine (refWithin_any _ _ _ _).mono ?_; rintro e w' ⟨rfl, rfl⟩)
                go_meet
                exact ⟨by rw [HV.out]; rfl, rfl⟩
  obtain ⟨rfl, rfl⟩ := hcut
  obtain ⟨b2, hb2⟩ : ∃ b2, b2 = (b1 && vq2 x) := ⟨_, rfl⟩
  rw [← hb2]
  have HB2 := hide hb2
  clear hb2
  go_upto_region 3 with fail
  go_cut [3] (fun s wx => s = .bool (b2 && vq3 x) ∧ W0 = wx)
  case first =>
    as_aux_lemma =>
      have z8 : W0.cell? ⟨w.heap.size, 8, none⟩ = some (.int .i64 x.indent) := by rw [blk_cell HB.out]; rfl
      have z9 : W0.cell? ⟨w.heap.size, 9, none⟩ = some (.int .i64 x.temp) := by rw [blk_cell HB.out]; rfl
      have z15 : W0.cell? ⟨w.heap.size, 15, none⟩ = some (.int .u8 (x.mode.toNat : Int)) := by rw [blk_cell HB.out]; rfl
      cases b2 with
      | false =>
        go_wp2_with fail
        go_meet
        exact ⟨rfl, rfl⟩
      | true =>
        cases h0 : withinB x.indent 0 1000000 with
        | false =>
          have HV := hide (show vq3 x = false by unfold vq3; rw [h0]; rfl)
          go_wp2_with (go_at_call 41; refine (refWithin_any _ _ _ _).mono ?_; rintro e w' ⟨rfl, rfl⟩)
          go_meet
          exact ⟨by rw [HV.out]; rfl, rfl⟩
        | true =>
          cases h1 : withinB x.temp (-1) 1000000 with
          | false =>
            have HV := hide (show vq3 x = false by unfold vq3; rw [h0, h1]; rfl)
            go_wp2_with (go_at_call 41; refine (refWithin_any _ _ _ _).mono ?_; rintro e w' ⟨rfl, rfl⟩)
            go_meet
            exact ⟨by rw [HV.out]; rfl, rfl⟩
          | true =>
            cases m0 : ((x.mode.toNat : Int) == 108) with
          | true =>
            have HV := hide (show vq3 x = true by unfold vq3; rw [h0, h1]; unfold modeQ; rw [m0]; rfl)
            go_wp2_with (go_at_call 41; refine (refWithin_any _ _ _ _).mono ?_; rintro e w' ⟨rfl, rfl⟩)
            go_meet
            exact ⟨by rw [HV.out]; rfl, rfl⟩
          | false =>
            cases m1 : ((x.mode.toNat : Int) == 114) with
            | true =>
              have HV := hide (show vq3 x = true by unfold vq3; rw [h0, h1]; unfold modeQ; rw [m0, m1]; rfl)
              go_wp2_with (go_at_call 41; refine (refWithin_any _ _ _ _).mono ?_; rintro e w' ⟨rfl, rfl⟩)
              go_meet
              exact ⟨by rw [HV.out]; rfl, rfl⟩
            | false =>
              cases m2 : ((x.mode.toNat : Int) == 99) with
              | true =>
                have HV := hide (show vq3 x = true by unfold vq3; rw [h0, h1]; unfold modeQ; rw [m0, m1, m2]; rfl)
                go_wp2_with (go_at_call 41; refine (refWithin_any _ _ _ _).mono ?_; rintro e w' ⟨rfl, rfl⟩)
                go_meet
                exact ⟨by rw [HV.out]; rfl, rfl⟩
              | false =>
                cases m3 : ((x.mode.toNat : Int) == 98) with
                | true =>
                  have HV := hide (show vq3 x = true by unfold vq3; rw [h0, h1]; unfold modeQ; rw [m0, m1, m2, m3]; rfl)
                  go_wp2_with (go_at_call 41; refine (refWithin_any _ _ _ _).mono ?_; rintro e w' ⟨rfl, rfl⟩)
                  go_meet
                  exact ⟨by rw [HV.out]; rfl, rfl⟩
                | false =>
                  have HV := hide (show vq3 x = false by unfold vq3; rw [h0, h1]; unfold modeQ; rw [m0, m1, m2, m3]; rfl)
                  go_wp2_with (go_at_call 41; refine (refWithin_any _ _ _ _).mono ?_; rintro e w' ⟨rfl, rfl⟩)
                  go_meet
                  exact ⟨by rw [HV.out]; rfl, rfl⟩
  obtain ⟨rfl, rfl⟩ := hcut
  obtain ⟨b3, hb3⟩ : ∃ b3, b3 = (b2 && vq3 x) := ⟨_, rfl⟩
  rw [← hb3]
  have HB3 := hide hb3
  clear hb3
  go_upto_region 4 with fail
  go_cut [3] (fun s wx => s = .bool (b3 && vq4 x) ∧ W0 = wx)
  case first =>
    as_aux_lemma =>
      have z16 : W0.cell? ⟨w.heap.size, 16, none⟩ = some (.int .i64 x.centre) := by rw [blk_cell HB.out]; rfl
      have z17 : W0.cell? ⟨w.heap.size, 17, none⟩ = some (.int .i64 x.under) := by rw [blk_cell HB.out]; rfl
      have z18 : W0.cell? ⟨w.heap.size, 18, none⟩ = some (.int .i64 x.cross) := by rw [blk_cell HB.out]; rfl
      have z19 : W0.cell? ⟨w.heap.size, 19, none⟩ = some (.int .i64 x.space) := by rw [blk_cell HB.out]; rfl
      have z20 : W0.cell? ⟨w.heap.size, 20, none⟩ = some (.int .i64 x.sentence) := by rw [blk_cell HB.out]; rfl
      cases b3 with
      | false =>
        go_wp2_with fail
        go_meet
        exact ⟨rfl, rfl⟩
      | true =>
        cases h0 : withinB x.centre 0 1000000 with
        | false =>
          have HV := hide (show vq4 x = false by unfold vq4; rw [h0]; rfl)
          go_wp2_with (go_at_call 41; refine (refWithin_any _ _ _ _).mono ?_; rintro e w' ⟨rfl, rfl⟩)
          go_meet
          exact ⟨by rw [HV.out]; rfl, rfl⟩
        | true =>
          cases h1 : withinB x.under 0 1000000 with
          | false =>
            have HV := hide (show vq4 x = false by unfold vq4; rw [h0, h1]; rfl)
            go_wp2_with (go_at_call 41; refine (refWithin_any _ _ _ _).mono ?_; rintro e w' ⟨rfl, rfl⟩)
            go_meet
            exact ⟨by rw [HV.out]; rfl, rfl⟩
          | true =>
            cases h2 : withinB x.cross 0 1000000 with
            | false =>
              have HV := hide (show vq4 x = false by unfold vq4; rw [h0, h1, h2]; rfl)
              go_wp2_with (go_at_call 41; refine (refWithin_any _ _ _ _).mono ?_; rintro e w' ⟨rfl, rfl⟩)
              go_meet
              exact ⟨by rw [HV.out]; rfl, rfl⟩
            | true =>
              cases h3 : withinB x.space 0 100 with
              | false =>
                have HV := hide (show vq4 x = false by unfold vq4; rw [h0, h1, h2, h3]; rfl)
                go_wp2_with (go_at_call 41; refine (refWithin_any _ _ _ _).mono ?_; rintro e w' ⟨rfl, rfl⟩)
                go_meet
                exact ⟨by rw [HV.out]; rfl, rfl⟩
              | true =>
                cases h4 : withinB x.sentence 0 100 with
                | false =>
                  have HV := hide (show vq4 x = false by unfold vq4; rw [h0, h1, h2, h3, h4]; rfl)
                  go_wp2_with (go_at_call 41; refine (refWithin_any _ _ _ _).mono ?_; rintro e w' ⟨rfl, rfl⟩)
                  go_meet
                  exact ⟨by rw [HV.out]; rfl, rfl⟩
                | true =>
                  have HV := hide (show vq4 x = true by unfold vq4; rw [h0, h1, h2, h3, h4]; rfl)
                  go_wp2_with (go_at_call 41; refine (refWithin_any _ _ _ _).mono ?_; rintro e w' ⟨rfl, rfl⟩)
                  go_meet
                  exact ⟨by rw [HV.out]; rfl, rfl⟩
  obtain ⟨rfl, rfl⟩ := hcut
  obtain ⟨b4, hb4⟩ : ∃ b4, b4 = (b3 && vq4 x) := ⟨_, rfl⟩
  rw [← hb4]
  have HB4 := hide hb4
  clear hb4
  go_upto_region 5 with fail
  go_cut [3] (fun s wx => ∃ q : After W0, wx = q.W ∧ s = .bool (b4 && vq5 x))
  case first =>
    as_aux_lemma =>
      have z21 : W0.cell? ⟨w.heap.size, 21, none⟩ = some (.slice A1 x.stops.length c1) := by rw [blk_cell HB.out]; rfl
      have z22 : W0.cell? ⟨w.heap.size, 22, none⟩ = some (.int .i64 x.every) := by rw [blk_cell HB.out]; rfl
      cases b4 with
      | false =>
        go_wp2_with fail
        go_meet
        exact ⟨⟨_, Below.refl _ _⟩, rfl, rfl⟩
      | true =>
        cases h0 : stopsB x.stops x.every with
        | false =>
          have HV := hide (show vq5 x = false by unfold vq5; rw [h0]; rfl)
          go_wp2_with (first
          | (go_at_call 42
             refine (refStops_any A1 c1 x.stops x.every ok _ (HR1.out.below HBEL.out) (by omega)).mono ?_
             rw [h0]
             rintro e w5 ⟨rfl, q⟩
             have hb5 := blk_below HB.out q (blk_lt HB.out)
             have y23 : w5.cell? ⟨w.heap.size, 23, none⟩ = some (.string x.tab) := by rw [blk_cell hb5]; rfl
             have y24 : w5.cell? ⟨w.heap.size, 24, none⟩ = some (.string x.leader) := by rw [blk_cell hb5]; rfl
             have y25 : w5.cell? ⟨w.heap.size, 25, none⟩ = some (.string x.margin) := by rw [blk_cell hb5]; rfl
             have y26 : w5.cell? ⟨w.heap.size, 26, none⟩ = some (.string x.colour) := by rw [blk_cell hb5]; rfl
             have y27 : w5.cell? ⟨w.heap.size, 27, none⟩ = some (.string x.lastColour) := by rw [blk_cell hb5]; rfl
             have HQ5 := hide q
             clear q hb5)
          | (go_at_call 43; refine (refGlyph_any _ _ (by first | exact HT1.out | exact HT2.out | exact HT3.out)).mono ?_; rintro e w' ⟨rfl, rfl⟩)
          | (go_at_call 44; refine (refColour_any _ _).mono ?_; rintro e w' ⟨rfl, rfl⟩))
          go_meet
          exact ⟨⟨_, HQ5.out⟩, rfl, by rw [HV.out]; rfl⟩
        | true =>
          cases h1 : textB x.tab 10 with
          | false =>
            have HV := hide (show vq5 x = false by unfold vq5; rw [h0, h1]; rfl)
            go_wp2_with (first
          | (go_at_call 42
             refine (refStops_any A1 c1 x.stops x.every ok _ (HR1.out.below HBEL.out) (by omega)).mono ?_
             rw [h0]
             rintro e w5 ⟨rfl, q⟩
             have hb5 := blk_below HB.out q (blk_lt HB.out)
             have y23 : w5.cell? ⟨w.heap.size, 23, none⟩ = some (.string x.tab) := by rw [blk_cell hb5]; rfl
             have y24 : w5.cell? ⟨w.heap.size, 24, none⟩ = some (.string x.leader) := by rw [blk_cell hb5]; rfl
             have y25 : w5.cell? ⟨w.heap.size, 25, none⟩ = some (.string x.margin) := by rw [blk_cell hb5]; rfl
             have y26 : w5.cell? ⟨w.heap.size, 26, none⟩ = some (.string x.colour) := by rw [blk_cell hb5]; rfl
             have y27 : w5.cell? ⟨w.heap.size, 27, none⟩ = some (.string x.lastColour) := by rw [blk_cell hb5]; rfl
             have HQ5 := hide q
             clear q hb5)
          | (go_at_call 43; refine (refGlyph_any _ _ (by first | exact HT1.out | exact HT2.out | exact HT3.out)).mono ?_; rintro e w' ⟨rfl, rfl⟩)
          | (go_at_call 44; refine (refColour_any _ _).mono ?_; rintro e w' ⟨rfl, rfl⟩))
            go_meet
            exact ⟨⟨_, HQ5.out⟩, rfl, by rw [HV.out]; rfl⟩
          | true =>
            cases h2 : textB x.leader 10 with
            | false =>
              have HV := hide (show vq5 x = false by unfold vq5; rw [h0, h1, h2]; rfl)
              go_wp2_with (first
          | (go_at_call 42
             refine (refStops_any A1 c1 x.stops x.every ok _ (HR1.out.below HBEL.out) (by omega)).mono ?_
             rw [h0]
             rintro e w5 ⟨rfl, q⟩
             have hb5 := blk_below HB.out q (blk_lt HB.out)
             have y23 : w5.cell? ⟨w.heap.size, 23, none⟩ = some (.string x.tab) := by rw [blk_cell hb5]; rfl
             have y24 : w5.cell? ⟨w.heap.size, 24, none⟩ = some (.string x.leader) := by rw [blk_cell hb5]; rfl
             have y25 : w5.cell? ⟨w.heap.size, 25, none⟩ = some (.string x.margin) := by rw [blk_cell hb5]; rfl
             have y26 : w5.cell? ⟨w.heap.size, 26, none⟩ = some (.string x.colour) := by rw [blk_cell hb5]; rfl
             have y27 : w5.cell? ⟨w.heap.size, 27, none⟩ = some (.string x.lastColour) := by rw [blk_cell hb5]; rfl
             have HQ5 := hide q
             clear q hb5)
          | (go_at_call 43; refine (refGlyph_any _ _ (by first | exact HT1.out | exact HT2.out | exact HT3.out)).mono ?_; rintro e w' ⟨rfl, rfl⟩)
          | (go_at_call 44; refine (refColour_any _ _).mono ?_; rintro e w' ⟨rfl, rfl⟩))
              go_meet
              exact ⟨⟨_, HQ5.out⟩, rfl, by rw [HV.out]; rfl⟩
            | true =>
              cases h3 : textB x.margin 10 with
              | false =>
                have HV := hide (show vq5 x = false by unfold vq5; rw [h0, h1, h2, h3]; rfl)
                go_wp2_with (first
          | (go_at_call 42
             refine (refStops_any A1 c1 x.stops x.every ok _ (HR1.out.below HBEL.out) (by omega)).mono ?_
             rw [h0]
             rintro e w5 ⟨rfl, q⟩
             have hb5 := blk_below HB.out q (blk_lt HB.out)
             have y23 : w5.cell? ⟨w.heap.size, 23, none⟩ = some (.string x.tab) := by rw [blk_cell hb5]; rfl
             have y24 : w5.cell? ⟨w.heap.size, 24, none⟩ = some (.string x.leader) := by rw [blk_cell hb5]; rfl
             have y25 : w5.cell? ⟨w.heap.size, 25, none⟩ = some (.string x.margin) := by rw [blk_cell hb5]; rfl
             have y26 : w5.cell? ⟨w.heap.size, 26, none⟩ = some (.string x.colour) := by rw [blk_cell hb5]; rfl
             have y27 : w5.cell? ⟨w.heap.size, 27, none⟩ = some (.string x.lastColour) := by rw [blk_cell hb5]; rfl
             have HQ5 := hide q
             clear q hb5)
          | (go_at_call 43; refine (refGlyph_any _ _ (by first | exact HT1.out | exact HT2.out | exact HT3.out)).mono ?_; rintro e w' ⟨rfl, rfl⟩)
          | (go_at_call 44; refine (refColour_any _ _).mono ?_; rintro e w' ⟨rfl, rfl⟩))
                go_meet
                exact ⟨⟨_, HQ5.out⟩, rfl, by rw [HV.out]; rfl⟩
              | true =>
                cases h4 : textB x.colour 20 with
                | false =>
                  have HV := hide (show vq5 x = false by unfold vq5; rw [h0, h1, h2, h3, h4]; rfl)
                  go_wp2_with (first
          | (go_at_call 42
             refine (refStops_any A1 c1 x.stops x.every ok _ (HR1.out.below HBEL.out) (by omega)).mono ?_
             rw [h0]
             rintro e w5 ⟨rfl, q⟩
             have hb5 := blk_below HB.out q (blk_lt HB.out)
             have y23 : w5.cell? ⟨w.heap.size, 23, none⟩ = some (.string x.tab) := by rw [blk_cell hb5]; rfl
             have y24 : w5.cell? ⟨w.heap.size, 24, none⟩ = some (.string x.leader) := by rw [blk_cell hb5]; rfl
             have y25 : w5.cell? ⟨w.heap.size, 25, none⟩ = some (.string x.margin) := by rw [blk_cell hb5]; rfl
             have y26 : w5.cell? ⟨w.heap.size, 26, none⟩ = some (.string x.colour) := by rw [blk_cell hb5]; rfl
             have y27 : w5.cell? ⟨w.heap.size, 27, none⟩ = some (.string x.lastColour) := by rw [blk_cell hb5]; rfl
             have HQ5 := hide q
             clear q hb5)
          | (go_at_call 43; refine (refGlyph_any _ _ (by first | exact HT1.out | exact HT2.out | exact HT3.out)).mono ?_; rintro e w' ⟨rfl, rfl⟩)
          | (go_at_call 44; refine (refColour_any _ _).mono ?_; rintro e w' ⟨rfl, rfl⟩))
                  go_meet
                  exact ⟨⟨_, HQ5.out⟩, rfl, by rw [HV.out]; rfl⟩
                | true =>
                  cases h5 : textB x.lastColour 20 with
                  | false =>
                    have HV := hide (show vq5 x = false by unfold vq5; rw [h0, h1, h2, h3, h4, h5]; rfl)
                    go_wp2_with (first
          | (go_at_call 42
             refine (refStops_any A1 c1 x.stops x.every ok _ (HR1.out.below HBEL.out) (by omega)).mono ?_
             rw [h0]
             rintro e w5 ⟨rfl, q⟩
             have hb5 := blk_below HB.out q (blk_lt HB.out)
             have y23 : w5.cell? ⟨w.heap.size, 23, none⟩ = some (.string x.tab) := by rw [blk_cell hb5]; rfl
             have y24 : w5.cell? ⟨w.heap.size, 24, none⟩ = some (.string x.leader) := by rw [blk_cell hb5]; rfl
             have y25 : w5.cell? ⟨w.heap.size, 25, none⟩ = some (.string x.margin) := by rw [blk_cell hb5]; rfl
             have y26 : w5.cell? ⟨w.heap.size, 26, none⟩ = some (.string x.colour) := by rw [blk_cell hb5]; rfl
             have y27 : w5.cell? ⟨w.heap.size, 27, none⟩ = some (.string x.lastColour) := by rw [blk_cell hb5]; rfl
             have HQ5 := hide q
             clear q hb5)
          | (go_at_call 43; refine (refGlyph_any _ _ (by first | exact HT1.out | exact HT2.out | exact HT3.out)).mono ?_; rintro e w' ⟨rfl, rfl⟩)
          | (go_at_call 44; refine (refColour_any _ _).mono ?_; rintro e w' ⟨rfl, rfl⟩))
                    go_meet
                    exact ⟨⟨_, HQ5.out⟩, rfl, by rw [HV.out]; rfl⟩
                  | true =>
                    have HV := hide (show vq5 x = true by unfold vq5; rw [h0, h1, h2, h3, h4, h5]; rfl)
                    go_wp2_with (first
          | (go_at_call 42
             refine (refStops_any A1 c1 x.stops x.every ok _ (HR1.out.below HBEL.out) (by omega)).mono ?_
             rw [h0]
             rintro e w5 ⟨rfl, q⟩
             have hb5 := blk_below HB.out q (blk_lt HB.out)
             have y23 : w5.cell? ⟨w.heap.size, 23, none⟩ = some (.string x.tab) := by rw [blk_cell hb5]; rfl
             have y24 : w5.cell? ⟨w.heap.size, 24, none⟩ = some (.string x.leader) := by rw [blk_cell hb5]; rfl
             have y25 : w5.cell? ⟨w.heap.size, 25, none⟩ = some (.string x.margin) := by rw [blk_cell hb5]; rfl
             have y26 : w5.cell? ⟨w.heap.size, 26, none⟩ = some (.string x.colour) := by rw [blk_cell hb5]; rfl
             have y27 : w5.cell? ⟨w.heap.size, 27, none⟩ = some (.string x.lastColour) := by rw [blk_cell hb5]; rfl
             have HQ5 := hide q
             clear q hb5)
          | (go_at_call 43; refine (refGlyph_any _ _ (by first | exact HT1.out | exact HT2.out | exact HT3.out)).mono ?_; rintro e w' ⟨rfl, rfl⟩)
          | (go_at_call 44; refine (refColour_any _ _).mono ?_; rintro e w' ⟨rfl, rfl⟩))
                    go_meet
                    exact ⟨⟨_, HQ5.out⟩, rfl, by rw [HV.out]; rfl⟩
  obtain ⟨q5, rfl, rfl⟩ := hcut
  obtain ⟨b5, hb5⟩ : ∃ b5, b5 = (b4 && vq5 x) := ⟨_, rfl⟩
  rw [← hb5]
  have HB5 := hide hb5
  clear hb5
  have HBb5 := hide (blk_below HB.out q5.h (blk_lt HB.out))
  go_upto_region 6 with fail
  go_cut [3] (fun s wx => ∃ q : After W0, wx = q.W ∧ s = .bool (b5 && vq6 x))
  case first =>
    as_aux_lemma =>
      have z28 : q5.W.cell? ⟨w.heap.size, 28, none⟩ = some (.int .i64 x.marginAt) := by rw [blk_cell HBb5.out]; rfl
      have z29 : q5.W.cell? ⟨w.heap.size, 29, none⟩ = some (.bool x.on) := by rw [blk_cell HBb5.out]; rfl
      have z30 : q5.W.cell? ⟨w.heap.size, 30, none⟩ = some (.int .i64 x.next) := by rw [blk_cell HBb5.out]; rfl
      have z31 : q5.W.cell? ⟨w.heap.size, 31, none⟩ = some (.int .i64 x.nevery) := by rw [blk_cell HBb5.out]; rfl
      have z32 : q5.W.cell? ⟨w.heap.size, 32, none⟩ = some (.int .i64 x.nspace) := by rw [blk_cell HBb5.out]; rfl
      have z33 : q5.W.cell? ⟨w.heap.size, 33, none⟩ = some (.int .i64 x.nindent) := by rw [blk_cell HBb5.out]; rfl
      have z34 : q5.W.cell? ⟨w.heap.size, 34, none⟩ = some (.int .i64 x.nskip) := by rw [blk_cell HBb5.out]; rfl
      cases b5 with
      | false =>
        go_wp2_with fail
        go_meet
        exact ⟨q5, rfl, rfl⟩
      | true =>
        cases h0 : withinB x.marginAt 0 1000000 with
        | false =>
          have HV := hide (show vq6 x = false by unfold vq6; rw [h0]; rfl)
          go_wp2_with (go_at_call 41; refine (refWithin_any _ _ _ _).mono ?_; rintro e w' ⟨rfl, rfl⟩)
          go_meet
          exact ⟨⟨_, by first | exact HQ6.out | exact q5.h⟩, rfl, by rw [HV.out]; rfl⟩
        | true =>
          cases h1 : marginB x.next x.nevery x.nspace x.nindent x.nskip with
          | false =>
            have HV := hide (show vq6 x = false by unfold vq6; rw [h0, h1]; rfl)
            go_wp2_with (first
          | (go_at_call 45
             refine (refMargin_any x.on x.next x.nevery x.nspace x.nindent x.nskip _).mono ?_
             rw [h1]
             rintro e w6 ⟨rfl, q⟩
             have hb6 := blk_below HBb5.out q (blk_lt HBb5.out)
             have y36 : w6.cell? ⟨w.heap.size, 36, none⟩ = some (.int .i64 x.before) := by rw [blk_cell hb6]; rfl
             have y37 : w6.cell? ⟨w.heap.size, 37, none⟩ = some (.int .i64 x.after) := by rw [blk_cell hb6]; rfl
             have y35 : w6.cell? ⟨w.heap.size, 35, none⟩ = some (.slice A2 x.row.length c2) := by rw [blk_cell hb6]; rfl
             have HQ6 := hide (below_self q5.h q)
             clear q hb6)
          | (go_at_call 41; refine (refWithin_any _ _ _ _).mono ?_; rintro e w' ⟨rfl, rfl⟩))
            go_meet
            exact ⟨⟨_, by first | exact HQ6.out | exact q5.h⟩, rfl, by rw [HV.out]; rfl⟩
          | true =>
            cases h2 : withinB x.before 0 1000000 with
            | false =>
              have HV := hide (show vq6 x = false by unfold vq6; rw [h0, h1, h2]; rfl)
              go_wp2_with (first
          | (go_at_call 45
             refine (refMargin_any x.on x.next x.nevery x.nspace x.nindent x.nskip _).mono ?_
             rw [h1]
             rintro e w6 ⟨rfl, q⟩
             have hb6 := blk_below HBb5.out q (blk_lt HBb5.out)
             have y36 : w6.cell? ⟨w.heap.size, 36, none⟩ = some (.int .i64 x.before) := by rw [blk_cell hb6]; rfl
             have y37 : w6.cell? ⟨w.heap.size, 37, none⟩ = some (.int .i64 x.after) := by rw [blk_cell hb6]; rfl
             have y35 : w6.cell? ⟨w.heap.size, 35, none⟩ = some (.slice A2 x.row.length c2) := by rw [blk_cell hb6]; rfl
             have HQ6 := hide (below_self q5.h q)
             clear q hb6)
          | (go_at_call 41; refine (refWithin_any _ _ _ _).mono ?_; rintro e w' ⟨rfl, rfl⟩))
              go_meet
              exact ⟨⟨_, by first | exact HQ6.out | exact q5.h⟩, rfl, by rw [HV.out]; rfl⟩
            | true =>
              cases h3 : withinB x.after 0 1000000 with
              | false =>
                have HV := hide (show vq6 x = false by unfold vq6; rw [h0, h1, h2, h3]; rfl)
                go_wp2_with (first
          | (go_at_call 45
             refine (refMargin_any x.on x.next x.nevery x.nspace x.nindent x.nskip _).mono ?_
             rw [h1]
             rintro e w6 ⟨rfl, q⟩
             have hb6 := blk_below HBb5.out q (blk_lt HBb5.out)
             have y36 : w6.cell? ⟨w.heap.size, 36, none⟩ = some (.int .i64 x.before) := by rw [blk_cell hb6]; rfl
             have y37 : w6.cell? ⟨w.heap.size, 37, none⟩ = some (.int .i64 x.after) := by rw [blk_cell hb6]; rfl
             have y35 : w6.cell? ⟨w.heap.size, 35, none⟩ = some (.slice A2 x.row.length c2) := by rw [blk_cell hb6]; rfl
             have HQ6 := hide (below_self q5.h q)
             clear q hb6)
          | (go_at_call 41; refine (refWithin_any _ _ _ _).mono ?_; rintro e w' ⟨rfl, rfl⟩))
                go_meet
                exact ⟨⟨_, by first | exact HQ6.out | exact q5.h⟩, rfl, by rw [HV.out]; rfl⟩
              | true =>
                have hl5 : decide ((x.row.length : Int) ≤ 5000) = decide (x.row.length ≤ 5000) := by rw [Bool.eq_iff_iff]; simp; omega
                cases h4 : decide (x.row.length ≤ 5000) with
                | false =>
                  have HV := hide (show vq6 x = false by unfold vq6; rw [h0, h1, h2, h3, h4]; rfl)
                  go_wp2_with (first
          | (go_at_call 45
             refine (refMargin_any x.on x.next x.nevery x.nspace x.nindent x.nskip _).mono ?_
             rw [h1]
             rintro e w6 ⟨rfl, q⟩
             have hb6 := blk_below HBb5.out q (blk_lt HBb5.out)
             have y36 : w6.cell? ⟨w.heap.size, 36, none⟩ = some (.int .i64 x.before) := by rw [blk_cell hb6]; rfl
             have y37 : w6.cell? ⟨w.heap.size, 37, none⟩ = some (.int .i64 x.after) := by rw [blk_cell hb6]; rfl
             have y35 : w6.cell? ⟨w.heap.size, 35, none⟩ = some (.slice A2 x.row.length c2) := by rw [blk_cell hb6]; rfl
             have HQ6 := hide (below_self q5.h q)
             clear q hb6)
          | (go_at_call 41; refine (refWithin_any _ _ _ _).mono ?_; rintro e w' ⟨rfl, rfl⟩))
                  go_meet
                  exact ⟨⟨_, by first | exact HQ6.out | exact q5.h⟩, rfl, by rw [HV.out]; rfl⟩
                | true =>
                  have HV := hide (show vq6 x = true by unfold vq6; rw [h0, h1, h2, h3, h4]; rfl)
                  go_wp2_with (first
          | (go_at_call 45
             refine (refMargin_any x.on x.next x.nevery x.nspace x.nindent x.nskip _).mono ?_
             rw [h1]
             rintro e w6 ⟨rfl, q⟩
             have hb6 := blk_below HBb5.out q (blk_lt HBb5.out)
             have y36 : w6.cell? ⟨w.heap.size, 36, none⟩ = some (.int .i64 x.before) := by rw [blk_cell hb6]; rfl
             have y37 : w6.cell? ⟨w.heap.size, 37, none⟩ = some (.int .i64 x.after) := by rw [blk_cell hb6]; rfl
             have y35 : w6.cell? ⟨w.heap.size, 35, none⟩ = some (.slice A2 x.row.length c2) := by rw [blk_cell hb6]; rfl
             have HQ6 := hide (below_self q5.h q)
             clear q hb6)
          | (go_at_call 41; refine (refWithin_any _ _ _ _).mono ?_; rintro e w' ⟨rfl, rfl⟩))
                  go_meet
                  exact ⟨⟨_, by first | exact HQ6.out | exact q5.h⟩, rfl, by rw [HV.out]; rfl⟩
  obtain ⟨q6, rfl, rfl⟩ := hcut
  obtain ⟨b6, hb6⟩ : ∃ b6, b6 = (b5 && vq6 x) := ⟨_, rfl⟩
  rw [← hb6]
  have HB6 := hide hb6
  clear hb6
  have HBb6 := hide (blk_below HB.out q6.h (blk_lt HB.out))
  have HB6X := hide (show validE x = (b6 && x.row.all validB) by rw [HVX.out, HB6.out, HB5.out, HB4.out, HB3.out, HB2.out, HB1.out]; simp only [Bool.and_assoc])
  obtain ⟨n, hn⟩ : ∃ n, n = x.row.length := ⟨_, rfl⟩
  have HN := hide hn
  clear hn
  go_wp2_with fail
  go_loopw [3, 4] (fun t3 t4 wr => ∃ (k : Nat) (b : Bool), t4 = .int .i64 k ∧ k ≤ n ∧ t3 = .bool b ∧ Hid (b = (b6 && (x.row.take k).all validB)) ∧ Hid (Below W0.heap.size W0 wr)) (fun _ t4 _ => n - (intOf t4).toNat)
  case atStart => exact ⟨0, b6, rfl, Nat.zero_le _, rfl, hide (by simp), hide q6.h⟩
  case round =>
    obtain ⟨k, b, rfl, hk, rfl, HG, HBK⟩ := hrel
    have hbk := blk_below HB.out HBK.out (blk_lt HB.out)
    have z35 : wr.cell? ⟨w.heap.size, 35, none⟩ = some (.slice A2 n c2) := by rw [blk_cell hbk, HN.out]; rfl
    clear hbk
    have hn9 : n ≤ 1000000000000 := by have := HN.out; omega
    by_cases hlt : k < n
    · obtain ⟨y, hy⟩ : ∃ y, x.row[k]? = some y := ⟨_, List.getElem?_eq_getElem (by have := HN.out; omega)⟩
      obtain ⟨hkl, hye⟩ := List.getElem?_eq_some_iff.1 hy
      have HT := hide (show (b6 && (x.row.take (k + 1)).all validB) = (b && validB y) by rw [List.take_succ_eq_append_getElem hkl, List.all_append, hye, HG.out, Bool.and_assoc]; simp)
      have HYM := hide (List.mem_of_getElem? hy)
      obtain ⟨b1', o1, A5, c5, rfl, hr5, -, -, y0, y1, y2, y3, y4, y5, y6⟩ := box_cells ((HR2.out.below HBEL.out).below HBK.out) hy
      have HR5 := hide hr5
      have i1 : (0 : Int) ≤ (k : Int) := by omega
      have i2 : (k : Int) < (n : Int) := by omega
      clear hy hkl hye hr5
      cases b with
      | false =>
        go_wp2_with fail
        go_roundw
        case rel => exact ⟨k + 1, false, by go_num, by omega, rfl, hide (by rw [HT.out]; rfl), HBK⟩
        case measure => simp [intOf]; omega
      | true =>
        obtain ⟨q, hq⟩ : ∃ q, q = validB y := ⟨_, rfl⟩
        have HQ := hide hq
        clear hq
        go_wp2_with (go_at_call 46; refine (refValid8 y A5 c5 ok _ HR5.out (by have := HS3.out y HYM.out; omega) (HT4.out y HYM.out).1 (HT4.out y HYM.out).2).mono ?_; rw [← HQ.out]; rintro e w8 ⟨rfl, q8⟩; have HQ8 := hide q8; clear q8)
        go_roundw
        case rel => exact ⟨k + 1, q, by go_num, by omega, rfl, hide (by rw [HT.out, HQ.out]; rfl), hide (below_self HBK.out HQ8.out)⟩
        case measure => simp [intOf]; omega
    · have HF := hide (show validE x = b by rw [HB6X.out, HG.out, List.take_of_length_le (by have := HN.out; omega)])
      go_wp2_with fail
      go_ret
      exact ⟨ret_bool HF.out.symm, HBEL.out.trans (HBK.out.mono HBEL.out.size)⟩
end Go.Proofs.Ytekkjieoikgpmaa
