/- frisketref16.Same: it tells what env.Same tells. -/
import Derived.Test.YtekkjieoikgpmaaE43
import Derived.Test.YtekkjieoikgpmaaE23
import Derived.Test.YtekkjieoikgpmaaE46
import Derived.Deep.DeepCutAuto
set_option linter.unusedVariables false
set_option linter.unusedSimpArgs false
namespace Go.Proofs.Ytekkjieoikgpmaa
open Go.RowKit
set_option maxHeartbeats 32000000
set_option maxRecDepth 1000000

def numQ (x y : EnvT) : Bool := (x.on == y.on) && all2 (· == ·) (numsOf x) (numsOf y)
theorem eqIn_rnum (d : Nat) (x y : EnvT) (w : World) : (Op.equalIn (d + 2) 39 (.agg (numCs x)) (.agg (numCs y))).run Try.prog w = .ok (numQ x y) w := by
  have hi := fun (a b : Int) => run_equalIn_int (P := Try.prog) w d 3 .i64 .i64 a b Try.underlying3
  have hb := fun (a b : Bool) => run_equalIn_bool (P := Try.prog) w d 4 a b Try.underlying4
  have hp : Try.prog.stoodInHeld 39 = false := by kernel_rfl
  have ki : Try.prog.plainKey 3 = true := by kernel_rfl
  have kb : Try.prog.plainKey 4 = true := by kernel_rfl
  rw [run_equalIn_struct w (d + 1) _ _ _ (by kernel_rfl) hp]
  have := fields_run (P := Try.prog) (w := w) (d + 1) (numCs x) (numCs y) [(((Try.prog.fieldsOf 39).toList.getD 0 default), .bool x.on, .bool y.on, x.on == y.on), (((Try.prog.fieldsOf 39).toList.getD 1 default), .int .i64 x.next, .int .i64 y.next, x.next == y.next), (((Try.prog.fieldsOf 39).toList.getD 2 default), .int .i64 x.nevery, .int .i64 y.nevery, x.nevery == y.nevery),
    (((Try.prog.fieldsOf 39).toList.getD 3 default), .int .i64 x.nspace, .int .i64 y.nspace, x.nspace == y.nspace), (((Try.prog.fieldsOf 39).toList.getD 4 default), .int .i64 x.nindent, .int .i64 y.nindent, x.nindent == y.nindent), (((Try.prog.fieldsOf 39).toList.getD 5 default), .int .i64 x.nskip, .int .i64 y.nskip, x.nskip == y.nskip)] (by
      simp only [List.forall_mem_cons]
      exact ⟨⟨by decide, run_part_plain w kb rfl, run_part_plain w kb rfl, hb _ _⟩, ⟨by decide, run_part_plain w ki rfl, run_part_plain w ki rfl, hi _ _⟩, ⟨by decide, run_part_plain w ki rfl, run_part_plain w ki rfl, hi _ _⟩, ⟨by decide, run_part_plain w ki rfl, run_part_plain w ki rfl, hi _ _⟩,
        ⟨by decide, run_part_plain w ki rfl, run_part_plain w ki rfl, hi _ _⟩, ⟨by decide, run_part_plain w ki rfl, run_part_plain w ki rfl, hi _ _⟩, fun _ h => by cases h⟩)
  rw [show (Try.prog.fieldsOf 39).toList = _ from (by kernel_rfl : (Try.prog.fieldsOf 39).toList = [((Try.prog.fieldsOf 39).toList.getD 0 default), ((Try.prog.fieldsOf 39).toList.getD 1 default), ((Try.prog.fieldsOf 39).toList.getD 2 default), ((Try.prog.fieldsOf 39).toList.getD 3 default), ((Try.prog.fieldsOf 39).toList.getD 4 default), ((Try.prog.fieldsOf 39).toList.getD 5 default)])]
  refine this.trans ?_
  rfl
theorem eql_rnum (x y : EnvT) (w : World) : (binOp .eql 39 (.agg #[.bool x.on, .int .i64 x.next, .int .i64 x.nevery, .int .i64 x.nspace, .int .i64 x.nindent, .int .i64 x.nskip]) (.agg #[.bool y.on, .int .i64 y.next, .int .i64 y.nevery, .int .i64 y.nspace, .int .i64 y.nindent, .int .i64 y.nskip])).run Try.prog w = .ok (.bool (numQ x y)) w := by
  have hq : (Op.equalIn 10000 39 (.agg (numCs x)) (.agg (numCs y))).run Try.prog w = .ok (numQ x y) w := eqIn_rnum 9998 x y w
  show (binOp .eql 39 (.agg (numCs x)) (.agg (numCs y))).run Try.prog w = .ok (.bool (numQ x y)) w
  simp only [binOp]
  simp [Op.equal, Op.maxDepth, hq]
def sq3 (x y : EnvT) : Bool := (x.font == y.font) && ((x.lastFont == y.lastFont) && ((x.size == y.size) && ((x.lastSize == y.lastSize) && ((x.vs == y.vs) && ((x.ls == y.ls))))))
def sq4 (x y : EnvT) : Bool := (x.length == y.length) && ((x.title == y.title) && ((x.indent == y.indent) && ((x.temp == y.temp))))
def sq5 (x y : EnvT) : Bool := (x.fill == y.fill) && ((x.adjust == y.adjust) && ((x.hyphens == y.hyphens) && ((x.ligs == y.ligs) && ((x.kerns == y.kerns) && (((x.mode.toNat : Int) == (y.mode.toNat : Int)))))))
def sq6 (x y : EnvT) : Bool := (x.centre == y.centre) && ((x.under == y.under) && ((x.cross == y.cross) && ((x.space == y.space) && ((x.sentence == y.sentence)))))
def sq7 (x y : EnvT) : Bool := (x.tab.toList == y.tab.toList) && ((x.leader.toList == y.leader.toList) && ((x.margin.toList == y.margin.toList) && ((x.colour.toList == y.colour.toList) && ((x.lastColour.toList == y.lastColour.toList)))))
def sq8 (x y : EnvT) : Bool := (x.marginAt == y.marginAt) && (numQ x y && ((x.before == y.before) && ((x.after == y.after) && ((x.joined == y.joined) && ((x.odd == y.odd))))))
theorem sameE_chain (x y : EnvT) : sameE x y = (all2 boxEq x.row y.row && (((x.every == y.every) && all2 eqStop x.stops y.stops) && (sq3 x y && (sq4 x y && (sq5 x y && (sq6 x y && (sq7 x y && sq8 x y))))))) := by
  unfold sameE plainB sq3 sq4 sq5 sq6 sq7 sq8 numQ intsOf flagsOf textsOf numsOf
  simp only [all2, Bool.and_true]
  ac_rfl
theorem refSame16_any (x y : EnvT) (cx cy : List Value) (ok ok' : Nat → Prop) (w : World) (hx : envK.K w ok x cx) (hy : envK.K w ok' y cy) (hs : x.small) :
    Calls Try.prog 10 #[.agg cx.toArray, .agg cy.toArray] w fun e w' => e = .returned (.bool (sameE x y)) ∧ Below w.heap.size w w' := by
  obtain ⟨u1, v1, rfl, ⟨A1, c1, rfl, hl1, hc1, hr1⟩, ⟨A2, c2, rfl, hl2, hc2, hr2⟩⟩ := hx
  obtain ⟨u3, v3, rfl, ⟨A3, c3, rfl, hl3, hc3, hr3⟩, ⟨A4, c4, rfl, hl4, hc4, hr4⟩⟩ := hy
  obtain ⟨hs1, hs2, hs3⟩ := hs
  have HCH := hide (sameE_chain x y)
  have HS3 := hide hs3
  have HR1 := hide hr1
  have HR2 := hide hr2
  have HR3 := hide hr3
  have HR4 := hide hr4
  have HNUM := hide (fun W => eql_rnum x y W)
  clear hr1 hr2 hr3 hr4 hs3
  go_enter Try.func10, Try.ntmps10
  go_upto_region 1 with fail
  refine wp_two ?_
  intro W0 hb1 hb2 hbel hsz
  have d0 : W0.cell? ⟨w.heap.size, 35, none⟩ = some (.slice A2 x.row.length c2) := by rw [blk_cell hb1]; rfl
  have d1 : W0.cell? ⟨w.heap.size + 1, 35, none⟩ = some (.slice A4 y.row.length c4) := by rw [blk_cell hb2]; rfl
  have HB1 := hide hb1
  have HB2 := hide hb2
  have HBEL := hide hbel
  clear hb1 hb2 hbel hsz
  cases hbx : all2 boxEq x.row y.row with
  | false =>
    go_wp2_with (go_at_call 29; refine (refSame8_any A2 c2 x.row A4 c4 y.row ok ok' _ (HR2.out.below HBEL.out) (HR4.out.below HBEL.out) (by omega) (fun z hz => by have := HS3.out z hz; omega)).mono ?_; rw [hbx]; rintro e w3 ⟨rfl, q⟩; have Q := hide q; clear q)
    go_ret
    exact ⟨ret_bool (by rw [HCH.out, hbx]; rfl), HBEL.out.trans (Q.out.mono HBEL.out.size)⟩
  | true =>
    cases hst : ((x.every == y.every) && all2 eqStop x.stops y.stops) with
    | false =>
      go_wp2_with (first
        | (go_at_call 29
           refine (refSame8_any A2 c2 x.row A4 c4 y.row ok ok' _ (HR2.out.below HBEL.out) (HR4.out.below HBEL.out) (by omega) (fun z hz => by have := HS3.out z hz; omega)).mono ?_
           rw [hbx]
           rintro e w3 ⟨rfl, q⟩
           have hb3 := blk_below HB1.out q (blk_lt HB1.out)
           have hb4 := blk_below HB2.out q (blk_lt HB2.out)
           have a21 : w3.cell? ⟨w.heap.size, 21, none⟩ = some (.slice A1 x.stops.length c1) := by rw [blk_cell hb3]; rfl
           have a22 : w3.cell? ⟨w.heap.size, 22, none⟩ = some (.int .i64 x.every) := by rw [blk_cell hb3]; rfl
           have b21 : w3.cell? ⟨w.heap.size + 1, 21, none⟩ = some (.slice A3 y.stops.length c3) := by rw [blk_cell hb4]; rfl
           have b22 : w3.cell? ⟨w.heap.size + 1, 22, none⟩ = some (.int .i64 y.every) := by rw [blk_cell hb4]; rfl
           have Q3 := hide q
           clear q hb3 hb4)
        | (go_at_call 30
           refine (refSame12_any A1 c1 x.stops x.every A3 c3 y.stops y.every ok ok' _ (HR1.out.below (HBEL.out.trans (Q3.out.mono HBEL.out.size))) (HR3.out.below (HBEL.out.trans (Q3.out.mono HBEL.out.size))) (by omega)).mono ?_
           rw [hst]
           rintro e w4 ⟨rfl, q⟩
           have Q4 := hide (below_self Q3.out q)
           clear q))
      go_ret
      exact ⟨ret_bool (by rw [HCH.out, hbx, hst]; rfl), HBEL.out.trans (Q4.out.mono HBEL.out.size)⟩
    | true =>
      go_upto_region 3 with (first
        | (go_at_call 29
           refine (refSame8_any A2 c2 x.row A4 c4 y.row ok ok' _ (HR2.out.below HBEL.out) (HR4.out.below HBEL.out) (by omega) (fun z hz => by have := HS3.out z hz; omega)).mono ?_
           rw [hbx]
           rintro e w3 ⟨rfl, q⟩
           have hb3 := blk_below HB1.out q (blk_lt HB1.out)
           have hb4 := blk_below HB2.out q (blk_lt HB2.out)
           have a21 : w3.cell? ⟨w.heap.size, 21, none⟩ = some (.slice A1 x.stops.length c1) := by rw [blk_cell hb3]; rfl
           have a22 : w3.cell? ⟨w.heap.size, 22, none⟩ = some (.int .i64 x.every) := by rw [blk_cell hb3]; rfl
           have b21 : w3.cell? ⟨w.heap.size + 1, 21, none⟩ = some (.slice A3 y.stops.length c3) := by rw [blk_cell hb4]; rfl
           have b22 : w3.cell? ⟨w.heap.size + 1, 22, none⟩ = some (.int .i64 y.every) := by rw [blk_cell hb4]; rfl
           have Q3 := hide q
           clear q hb3 hb4)
        | (go_at_call 30
           refine (refSame12_any A1 c1 x.stops x.every A3 c3 y.stops y.every ok ok' _ (HR1.out.below (HBEL.out.trans (Q3.out.mono HBEL.out.size))) (HR3.out.below (HBEL.out.trans (Q3.out.mono HBEL.out.size))) (by omega)).mono ?_
           rw [hst]
           rintro e w4 ⟨rfl, q⟩
           have Q4 := hide (below_self Q3.out q)
           clear q))
      have HX := hide (blk_below HB1.out Q4.out (blk_lt HB1.out))
      have HY := hide (blk_below HB2.out Q4.out (blk_lt HB2.out))
      have HBE3 := hide (HBEL.out.trans (Q4.out.mono HBEL.out.size))
      have HCH2 := hide (show sameE x y = (sq3 x y && (sq4 x y && (sq5 x y && (sq6 x y && (sq7 x y && sq8 x y))))) by rw [HCH.out, hbx, hst]; rfl)
      clear hbx hst d0 d1 a21 a22 b21 b22
      go_upto_region 3 with fail
      go_cut [5] (fun s wx => s = .bool (sq3 x y) ∧ w4 = wx)
      case first =>
        as_aux_lemma =>
          have z0 : w4.cell? ⟨w.heap.size, 0, none⟩ = some (.int .i64 x.font) := by rw [blk_cell HX.out]; rfl
          have y0 : w4.cell? ⟨w.heap.size + 1, 0, none⟩ = some (.int .i64 y.font) := by rw [blk_cell HY.out]; rfl
          have z1 : w4.cell? ⟨w.heap.size, 1, none⟩ = some (.int .i64 x.lastFont) := by rw [blk_cell HX.out]; rfl
          have y1 : w4.cell? ⟨w.heap.size + 1, 1, none⟩ = some (.int .i64 y.lastFont) := by rw [blk_cell HY.out]; rfl
          have z2 : w4.cell? ⟨w.heap.size, 2, none⟩ = some (.int .i64 x.size) := by rw [blk_cell HX.out]; rfl
          have y2 : w4.cell? ⟨w.heap.size + 1, 2, none⟩ = some (.int .i64 y.size) := by rw [blk_cell HY.out]; rfl
          have z3 : w4.cell? ⟨w.heap.size, 3, none⟩ = some (.int .i64 x.lastSize) := by rw [blk_cell HX.out]; rfl
          have y3 : w4.cell? ⟨w.heap.size + 1, 3, none⟩ = some (.int .i64 y.lastSize) := by rw [blk_cell HY.out]; rfl
          have z4 : w4.cell? ⟨w.heap.size, 4, none⟩ = some (.int .i64 x.vs) := by rw [blk_cell HX.out]; rfl
          have y4 : w4.cell? ⟨w.heap.size + 1, 4, none⟩ = some (.int .i64 y.vs) := by rw [blk_cell HY.out]; rfl
          have z5 : w4.cell? ⟨w.heap.size, 5, none⟩ = some (.int .i64 x.ls) := by rw [blk_cell HX.out]; rfl
          have y5 : w4.cell? ⟨w.heap.size + 1, 5, none⟩ = some (.int .i64 y.ls) := by rw [blk_cell HY.out]; rfl
          cases h0 : (x.font == y.font) with
          | false =>
            have HV := hide (show sq3 x y = false by unfold sq3; rw [h0]; rfl)
            go_wp2_with fail
            go_meet
            exact ⟨by rw [HV.out], rfl⟩
          | true =>
            cases h1 : (x.lastFont == y.lastFont) with
            | false =>
              have HV := hide (show sq3 x y = false by unfold sq3; rw [h0, h1]; rfl)
              go_wp2_with fail
              go_meet
              exact ⟨by rw [HV.out], rfl⟩
            | true =>
              cases h2 : (x.size == y.size) with
              | false =>
                have HV := hide (show sq3 x y = false by unfold sq3; rw [h0, h1, h2]; rfl)
                go_wp2_with fail
                go_meet
                exact ⟨by rw [HV.out], rfl⟩
              | true =>
                cases h3 : (x.lastSize == y.lastSize) with
                | false =>
                  have HV := hide (show sq3 x y = false by unfold sq3; rw [h0, h1, h2, h3]; rfl)
                  go_wp2_with fail
                  go_meet
                  exact ⟨by rw [HV.out], rfl⟩
                | true =>
                  cases h4 : (x.vs == y.vs) with
                  | false =>
                    have HV := hide (show sq3 x y = false by unfold sq3; rw [h0, h1, h2, h3, h4]; rfl)
                    go_wp2_with fail
                    go_meet
                    exact ⟨by rw [HV.out], rfl⟩
                  | true =>
                    cases h5 : (x.ls == y.ls) with
                    | false =>
                      have HV := hide (show sq3 x y = false by unfold sq3; rw [h0, h1, h2, h3, h4, h5]; rfl)
                      go_wp2_with fail
                      go_meet
                      exact ⟨by rw [HV.out], rfl⟩
                    | true =>
                      have HV := hide (show sq3 x y = true by unfold sq3; rw [h0, h1, h2, h3, h4, h5]; rfl)
                      go_wp2_with fail
                      go_meet
                      exact ⟨by rw [HV.out], rfl⟩
      obtain ⟨rfl, rfl⟩ := hcut
      obtain ⟨b3, hb3⟩ : ∃ b3, b3 = (sq3 x y) := ⟨_, rfl⟩
      rw [← hb3]
      have HB3 := hide hb3
      clear hb3
      go_upto_region 4 with fail
      go_cut [5] (fun s wx => s = .bool (b3 && sq4 x y) ∧ w4 = wx)
      case first =>
        as_aux_lemma =>
          have z6 : w4.cell? ⟨w.heap.size, 6, none⟩ = some (.int .i64 x.length) := by rw [blk_cell HX.out]; rfl
          have y6 : w4.cell? ⟨w.heap.size + 1, 6, none⟩ = some (.int .i64 y.length) := by rw [blk_cell HY.out]; rfl
          have z7 : w4.cell? ⟨w.heap.size, 7, none⟩ = some (.int .i64 x.title) := by rw [blk_cell HX.out]; rfl
          have y7 : w4.cell? ⟨w.heap.size + 1, 7, none⟩ = some (.int .i64 y.title) := by rw [blk_cell HY.out]; rfl
          have z8 : w4.cell? ⟨w.heap.size, 8, none⟩ = some (.int .i64 x.indent) := by rw [blk_cell HX.out]; rfl
          have y8 : w4.cell? ⟨w.heap.size + 1, 8, none⟩ = some (.int .i64 y.indent) := by rw [blk_cell HY.out]; rfl
          have z9 : w4.cell? ⟨w.heap.size, 9, none⟩ = some (.int .i64 x.temp) := by rw [blk_cell HX.out]; rfl
          have y9 : w4.cell? ⟨w.heap.size + 1, 9, none⟩ = some (.int .i64 y.temp) := by rw [blk_cell HY.out]; rfl
          cases b3 with
          | false =>
            go_wp2_with fail
            go_meet
            exact ⟨rfl, rfl⟩
          | true =>
            cases h0 : (x.length == y.length) with
            | false =>
              have HV := hide (show sq4 x y = false by unfold sq4; rw [h0]; rfl)
              go_wp2_with fail
              go_meet
              exact ⟨by rw [HV.out]; rfl, rfl⟩
            | true =>
              cases h1 : (x.title == y.title) with
              | false =>
                have HV := hide (show sq4 x y = false by unfold sq4; rw [h0, h1]; rfl)
                go_wp2_with fail
                go_meet
                exact ⟨by rw [HV.out]; rfl, rfl⟩
              | true =>
                cases h2 : (x.indent == y.indent) with
                | false =>
                  have HV := hide (show sq4 x y = false by unfold sq4; rw [h0, h1, h2]; rfl)
                  go_wp2_with fail
                  go_meet
                  exact ⟨by rw [HV.out]; rfl, rfl⟩
                | true =>
                  cases h3 : (x.temp == y.temp) with
                  | false =>
                    have HV := hide (show sq4 x y = false by unfold sq4; rw [h0, h1, h2, h3]; rfl)
                    go_wp2_with fail
                    go_meet
                    exact ⟨by rw [HV.out]; rfl, rfl⟩
                  | true =>
                    have HV := hide (show sq4 x y = true by unfold sq4; rw [h0, h1, h2, h3]; rfl)
                    go_wp2_with fail
                    go_meet
                    exact ⟨by rw [HV.out]; rfl, rfl⟩
      obtain ⟨rfl, rfl⟩ := hcut
      obtain ⟨b4, hb4⟩ : ∃ b4, b4 = (b3 && sq4 x y) := ⟨_, rfl⟩
      rw [← hb4]
      have HB4 := hide hb4
      clear hb4
      go_upto_region 5 with fail
      go_cut [5] (fun s wx => s = .bool (b4 && sq5 x y) ∧ w4 = wx)
      case first =>
        as_aux_lemma =>
          have z10 : w4.cell? ⟨w.heap.size, 10, none⟩ = some (.bool x.fill) := by rw [blk_cell HX.out]; rfl
          have y10 : w4.cell? ⟨w.heap.size + 1, 10, none⟩ = some (.bool y.fill) := by rw [blk_cell HY.out]; rfl
          have z11 : w4.cell? ⟨w.heap.size, 11, none⟩ = some (.bool x.adjust) := by rw [blk_cell HX.out]; rfl
          have y11 : w4.cell? ⟨w.heap.size + 1, 11, none⟩ = some (.bool y.adjust) := by rw [blk_cell HY.out]; rfl
          have z12 : w4.cell? ⟨w.heap.size, 12, none⟩ = some (.bool x.hyphens) := by rw [blk_cell HX.out]; rfl
          have y12 : w4.cell? ⟨w.heap.size + 1, 12, none⟩ = some (.bool y.hyphens) := by rw [blk_cell HY.out]; rfl
          have z13 : w4.cell? ⟨w.heap.size, 13, none⟩ = some (.bool x.ligs) := by rw [blk_cell HX.out]; rfl
          have y13 : w4.cell? ⟨w.heap.size + 1, 13, none⟩ = some (.bool y.ligs) := by rw [blk_cell HY.out]; rfl
          have z14 : w4.cell? ⟨w.heap.size, 14, none⟩ = some (.bool x.kerns) := by rw [blk_cell HX.out]; rfl
          have y14 : w4.cell? ⟨w.heap.size + 1, 14, none⟩ = some (.bool y.kerns) := by rw [blk_cell HY.out]; rfl
          have z15 : w4.cell? ⟨w.heap.size, 15, none⟩ = some (.int .u8 (x.mode.toNat : Int)) := by rw [blk_cell HX.out]; rfl
          have y15 : w4.cell? ⟨w.heap.size + 1, 15, none⟩ = some (.int .u8 (y.mode.toNat : Int)) := by rw [blk_cell HY.out]; rfl
          cases b4 with
          | false =>
            go_wp2_with fail
            go_meet
            exact ⟨rfl, rfl⟩
          | true =>
            cases h0 : (x.fill == y.fill) with
            | false =>
              have HV := hide (show sq5 x y = false by unfold sq5; rw [h0]; rfl)
              go_wp2_with fail
              go_meet
              exact ⟨by rw [HV.out]; rfl, rfl⟩
            | true =>
              cases h1 : (x.adjust == y.adjust) with
              | false =>
                have HV := hide (show sq5 x y = false by unfold sq5; rw [h0, h1]; rfl)
                go_wp2_with fail
                go_meet
                exact ⟨by rw [HV.out]; rfl, rfl⟩
              | true =>
                cases h2 : (x.hyphens == y.hyphens) with
                | false =>
                  have HV := hide (show sq5 x y = false by unfold sq5; rw [h0, h1, h2]; rfl)
                  go_wp2_with fail
                  go_meet
                  exact ⟨by rw [HV.out]; rfl, rfl⟩
                | true =>
                  cases h3 : (x.ligs == y.ligs) with
                  | false =>
                    have HV := hide (show sq5 x y = false by unfold sq5; rw [h0, h1, h2, h3]; rfl)
                    go_wp2_with fail
                    go_meet
                    exact ⟨by rw [HV.out]; rfl, rfl⟩
                  | true =>
                    cases h4 : (x.kerns == y.kerns) with
                    | false =>
                      have HV := hide (show sq5 x y = false by unfold sq5; rw [h0, h1, h2, h3, h4]; rfl)
                      go_wp2_with fail
                      go_meet
                      exact ⟨by rw [HV.out]; rfl, rfl⟩
                    | true =>
                      cases h5 : ((x.mode.toNat : Int) == (y.mode.toNat : Int)) with
                      | false =>
                        have HV := hide (show sq5 x y = false by unfold sq5; rw [h0, h1, h2, h3, h4, h5]; rfl)
                        go_wp2_with fail
                        go_meet
                        exact ⟨by rw [HV.out]; rfl, rfl⟩
                      | true =>
                        have HV := hide (show sq5 x y = true by unfold sq5; rw [h0, h1, h2, h3, h4, h5]; rfl)
                        go_wp2_with fail
                        go_meet
                        exact ⟨by rw [HV.out]; rfl, rfl⟩
      obtain ⟨rfl, rfl⟩ := hcut
      obtain ⟨b5, hb5⟩ : ∃ b5, b5 = (b4 && sq5 x y) := ⟨_, rfl⟩
      rw [← hb5]
      have HB5 := hide hb5
      clear hb5
      go_upto_region 6 with fail
      go_cut [5] (fun s wx => s = .bool (b5 && sq6 x y) ∧ w4 = wx)
      case first =>
        as_aux_lemma =>
          have z16 : w4.cell? ⟨w.heap.size, 16, none⟩ = some (.int .i64 x.centre) := by rw [blk_cell HX.out]; rfl
          have y16 : w4.cell? ⟨w.heap.size + 1, 16, none⟩ = some (.int .i64 y.centre) := by rw [blk_cell HY.out]; rfl
          have z17 : w4.cell? ⟨w.heap.size, 17, none⟩ = some (.int .i64 x.under) := by rw [blk_cell HX.out]; rfl
          have y17 : w4.cell? ⟨w.heap.size + 1, 17, none⟩ = some (.int .i64 y.under) := by rw [blk_cell HY.out]; rfl
          have z18 : w4.cell? ⟨w.heap.size, 18, none⟩ = some (.int .i64 x.cross) := by rw [blk_cell HX.out]; rfl
          have y18 : w4.cell? ⟨w.heap.size + 1, 18, none⟩ = some (.int .i64 y.cross) := by rw [blk_cell HY.out]; rfl
          have z19 : w4.cell? ⟨w.heap.size, 19, none⟩ = some (.int .i64 x.space) := by rw [blk_cell HX.out]; rfl
          have y19 : w4.cell? ⟨w.heap.size + 1, 19, none⟩ = some (.int .i64 y.space) := by rw [blk_cell HY.out]; rfl
          have z20 : w4.cell? ⟨w.heap.size, 20, none⟩ = some (.int .i64 x.sentence) := by rw [blk_cell HX.out]; rfl
          have y20 : w4.cell? ⟨w.heap.size + 1, 20, none⟩ = some (.int .i64 y.sentence) := by rw [blk_cell HY.out]; rfl
          cases b5 with
          | false =>
            go_wp2_with fail
            go_meet
            exact ⟨rfl, rfl⟩
          | true =>
            cases h0 : (x.centre == y.centre) with
            | false =>
              have HV := hide (show sq6 x y = false by unfold sq6; rw [h0]; rfl)
              go_wp2_with fail
              go_meet
              exact ⟨by rw [HV.out]; rfl, rfl⟩
            | true =>
              cases h1 : (x.under == y.under) with
              | false =>
                have HV := hide (show sq6 x y = false by unfold sq6; rw [h0, h1]; rfl)
                go_wp2_with fail
                go_meet
                exact ⟨by rw [HV.out]; rfl, rfl⟩
              | true =>
                cases h2 : (x.cross == y.cross) with
                | false =>
                  have HV := hide (show sq6 x y = false by unfold sq6; rw [h0, h1, h2]; rfl)
                  go_wp2_with fail
                  go_meet
                  exact ⟨by rw [HV.out]; rfl, rfl⟩
                | true =>
                  cases h3 : (x.space == y.space) with
                  | false =>
                    have HV := hide (show sq6 x y = false by unfold sq6; rw [h0, h1, h2, h3]; rfl)
                    go_wp2_with fail
                    go_meet
                    exact ⟨by rw [HV.out]; rfl, rfl⟩
                  | true =>
                    cases h4 : (x.sentence == y.sentence) with
                    | false =>
                      have HV := hide (show sq6 x y = false by unfold sq6; rw [h0, h1, h2, h3, h4]; rfl)
                      go_wp2_with fail
                      go_meet
                      exact ⟨by rw [HV.out]; rfl, rfl⟩
                    | true =>
                      have HV := hide (show sq6 x y = true by unfold sq6; rw [h0, h1, h2, h3, h4]; rfl)
                      go_wp2_with fail
                      go_meet
                      exact ⟨by rw [HV.out]; rfl, rfl⟩
      obtain ⟨rfl, rfl⟩ := hcut
      obtain ⟨b6, hb6⟩ : ∃ b6, b6 = (b5 && sq6 x y) := ⟨_, rfl⟩
      rw [← hb6]
      have HB6 := hide hb6
      clear hb6
      go_upto_region 7 with fail
      go_cut [5] (fun s wx => s = .bool (b6 && sq7 x y) ∧ w4 = wx)
      case first =>
        as_aux_lemma =>
          have z23 : w4.cell? ⟨w.heap.size, 23, none⟩ = some (.string x.tab) := by rw [blk_cell HX.out]; rfl
          have y23 : w4.cell? ⟨w.heap.size + 1, 23, none⟩ = some (.string y.tab) := by rw [blk_cell HY.out]; rfl
          have z24 : w4.cell? ⟨w.heap.size, 24, none⟩ = some (.string x.leader) := by rw [blk_cell HX.out]; rfl
          have y24 : w4.cell? ⟨w.heap.size + 1, 24, none⟩ = some (.string y.leader) := by rw [blk_cell HY.out]; rfl
          have z25 : w4.cell? ⟨w.heap.size, 25, none⟩ = some (.string x.margin) := by rw [blk_cell HX.out]; rfl
          have y25 : w4.cell? ⟨w.heap.size + 1, 25, none⟩ = some (.string y.margin) := by rw [blk_cell HY.out]; rfl
          have z26 : w4.cell? ⟨w.heap.size, 26, none⟩ = some (.string x.colour) := by rw [blk_cell HX.out]; rfl
          have y26 : w4.cell? ⟨w.heap.size + 1, 26, none⟩ = some (.string y.colour) := by rw [blk_cell HY.out]; rfl
          have z27 : w4.cell? ⟨w.heap.size, 27, none⟩ = some (.string x.lastColour) := by rw [blk_cell HX.out]; rfl
          have y27 : w4.cell? ⟨w.heap.size + 1, 27, none⟩ = some (.string y.lastColour) := by rw [blk_cell HY.out]; rfl
          cases b6 with
          | false =>
            go_wp2_with fail
            go_meet
            exact ⟨rfl, rfl⟩
          | true =>
            cases h0 : (x.tab.toList == y.tab.toList) with
            | false =>
              have HV := hide (show sq7 x y = false by unfold sq7; rw [h0]; rfl)
              go_wp2_with fail
              go_meet
              exact ⟨by rw [HV.out]; rfl, rfl⟩
            | true =>
              cases h1 : (x.leader.toList == y.leader.toList) with
              | false =>
                have HV := hide (show sq7 x y = false by unfold sq7; rw [h0, h1]; rfl)
                go_wp2_with fail
                go_meet
                exact ⟨by rw [HV.out]; rfl, rfl⟩
              | true =>
                cases h2 : (x.margin.toList == y.margin.toList) with
                | false =>
                  have HV := hide (show sq7 x y = false by unfold sq7; rw [h0, h1, h2]; rfl)
                  go_wp2_with fail
                  go_meet
                  exact ⟨by rw [HV.out]; rfl, rfl⟩
                | true =>
                  cases h3 : (x.colour.toList == y.colour.toList) with
                  | false =>
                    have HV := hide (show sq7 x y = false by unfold sq7; rw [h0, h1, h2, h3]; rfl)
                    go_wp2_with fail
                    go_meet
                    exact ⟨by rw [HV.out]; rfl, rfl⟩
                  | true =>
                    cases h4 : (x.lastColour.toList == y.lastColour.toList) with
                    | false =>
                      have HV := hide (show sq7 x y = false by unfold sq7; rw [h0, h1, h2, h3, h4]; rfl)
                      go_wp2_with fail
                      go_meet
                      exact ⟨by rw [HV.out]; rfl, rfl⟩
                    | true =>
                      have HV := hide (show sq7 x y = true by unfold sq7; rw [h0, h1, h2, h3, h4]; rfl)
                      go_wp2_with fail
                      go_meet
                      exact ⟨by rw [HV.out]; rfl, rfl⟩
      obtain ⟨rfl, rfl⟩ := hcut
      obtain ⟨b7, hb7⟩ : ∃ b7, b7 = (b6 && sq7 x y) := ⟨_, rfl⟩
      rw [← hb7]
      have HB7 := hide hb7
      clear hb7
      go_upto_region 8 with fail
      go_cut [4] (fun s wx => s = .bool (b7 && sq8 x y) ∧ w4 = wx)
      case first =>
        as_aux_lemma =>
          have z28 : w4.cell? ⟨w.heap.size, 28, none⟩ = some (.int .i64 x.marginAt) := by rw [blk_cell HX.out]; rfl
          have y28 : w4.cell? ⟨w.heap.size + 1, 28, none⟩ = some (.int .i64 y.marginAt) := by rw [blk_cell HY.out]; rfl
          have z29 : w4.cell? ⟨w.heap.size, 29, none⟩ = some (.bool x.on) := by rw [blk_cell HX.out]; rfl
          have y29 : w4.cell? ⟨w.heap.size + 1, 29, none⟩ = some (.bool y.on) := by rw [blk_cell HY.out]; rfl
          have z30 : w4.cell? ⟨w.heap.size, 30, none⟩ = some (.int .i64 x.next) := by rw [blk_cell HX.out]; rfl
          have y30 : w4.cell? ⟨w.heap.size + 1, 30, none⟩ = some (.int .i64 y.next) := by rw [blk_cell HY.out]; rfl
          have z31 : w4.cell? ⟨w.heap.size, 31, none⟩ = some (.int .i64 x.nevery) := by rw [blk_cell HX.out]; rfl
          have y31 : w4.cell? ⟨w.heap.size + 1, 31, none⟩ = some (.int .i64 y.nevery) := by rw [blk_cell HY.out]; rfl
          have z32 : w4.cell? ⟨w.heap.size, 32, none⟩ = some (.int .i64 x.nspace) := by rw [blk_cell HX.out]; rfl
          have y32 : w4.cell? ⟨w.heap.size + 1, 32, none⟩ = some (.int .i64 y.nspace) := by rw [blk_cell HY.out]; rfl
          have z33 : w4.cell? ⟨w.heap.size, 33, none⟩ = some (.int .i64 x.nindent) := by rw [blk_cell HX.out]; rfl
          have y33 : w4.cell? ⟨w.heap.size + 1, 33, none⟩ = some (.int .i64 y.nindent) := by rw [blk_cell HY.out]; rfl
          have z34 : w4.cell? ⟨w.heap.size, 34, none⟩ = some (.int .i64 x.nskip) := by rw [blk_cell HX.out]; rfl
          have y34 : w4.cell? ⟨w.heap.size + 1, 34, none⟩ = some (.int .i64 y.nskip) := by rw [blk_cell HY.out]; rfl
          have z36 : w4.cell? ⟨w.heap.size, 36, none⟩ = some (.int .i64 x.before) := by rw [blk_cell HX.out]; rfl
          have y36 : w4.cell? ⟨w.heap.size + 1, 36, none⟩ = some (.int .i64 y.before) := by rw [blk_cell HY.out]; rfl
          have z37 : w4.cell? ⟨w.heap.size, 37, none⟩ = some (.int .i64 x.after) := by rw [blk_cell HX.out]; rfl
          have y37 : w4.cell? ⟨w.heap.size + 1, 37, none⟩ = some (.int .i64 y.after) := by rw [blk_cell HY.out]; rfl
          have z38 : w4.cell? ⟨w.heap.size, 38, none⟩ = some (.bool x.joined) := by rw [blk_cell HX.out]; rfl
          have y38 : w4.cell? ⟨w.heap.size + 1, 38, none⟩ = some (.bool y.joined) := by rw [blk_cell HY.out]; rfl
          have z39 : w4.cell? ⟨w.heap.size, 39, none⟩ = some (.bool x.odd) := by rw [blk_cell HX.out]; rfl
          have y39 : w4.cell? ⟨w.heap.size + 1, 39, none⟩ = some (.bool y.odd) := by rw [blk_cell HY.out]; rfl
          have hnum := HNUM.out
          cases b7 with
          | false =>
            go_wp2_with fail
            go_meet
            exact ⟨rfl, rfl⟩
          | true =>
            cases h0 : (x.marginAt == y.marginAt) with
            | false =>
              have HV := hide (show sq8 x y = false by unfold sq8; rw [h0]; rfl)
              go_wp2_with fail
              go_meet
              exact ⟨by rw [HV.out]; rfl, rfl⟩
            | true =>
              cases h1 : numQ x y with
              | false =>
                have HV := hide (show sq8 x y = false by unfold sq8; rw [h0, h1]; rfl)
                go_wp2_with fail
                go_meet
                exact ⟨by rw [HV.out]; rfl, rfl⟩
              | true =>
                cases h2 : (x.before == y.before) with
                | false =>
                  have HV := hide (show sq8 x y = false by unfold sq8; rw [h0, h1, h2]; rfl)
                  go_wp2_with fail
                  go_meet
                  exact ⟨by rw [HV.out]; rfl, rfl⟩
                | true =>
                  cases h3 : (x.after == y.after) with
                  | false =>
                    have HV := hide (show sq8 x y = false by unfold sq8; rw [h0, h1, h2, h3]; rfl)
                    go_wp2_with fail
                    go_meet
                    exact ⟨by rw [HV.out]; rfl, rfl⟩
                  | true =>
                    cases h4 : (x.joined == y.joined) with
                    | false =>
                      have HV := hide (show sq8 x y = false by unfold sq8; rw [h0, h1, h2, h3, h4]; rfl)
                      go_wp2_with fail
                      go_meet
                      exact ⟨by rw [HV.out]; rfl, rfl⟩
                    | true =>
                      cases h5 : (x.odd == y.odd) with
                      | false =>
                        have HV := hide (show sq8 x y = false by unfold sq8; rw [h0, h1, h2, h3, h4, h5]; rfl)
                        go_wp2_with fail
                        go_meet
                        exact ⟨by rw [HV.out]; rfl, rfl⟩
                      | true =>
                        have HV := hide (show sq8 x y = true by unfold sq8; rw [h0, h1, h2, h3, h4, h5]; rfl)
                        go_wp2_with fail
                        go_meet
                        exact ⟨by rw [HV.out]; rfl, rfl⟩
      obtain ⟨rfl, rfl⟩ := hcut
      have HF := hide (show sameE x y = (b7 && sq8 x y) by rw [HCH2.out, HB7.out, HB6.out, HB5.out, HB4.out, HB3.out]; simp only [Bool.and_assoc])
      go_wp2_with fail
      go_ret
      exact ⟨ret_bool HF.out.symm, HBE3.out⟩
end Go.Proofs.Ytekkjieoikgpmaa
