/- env.Valid: the walk. -/
import Derived.Test.YtekkjieoikgpmaaE8
set_option linter.unusedVariables false
set_option linter.unusedSimpArgs false
namespace Go.Proofs.Ytekkjieoikgpmaa
open Go.RowKit
set_option maxHeartbeats 3200000
set_option maxRecDepth 1000000

theorem env_nums {w : World} {x : EnvT} {u v : Value} {g : Nat} (hb : w.heap[g]? = some (.cells (x.cells u v).toArray 29 (0, 0))) :
    w.cell? ⟨g, 0, none⟩ = some (.int .i64 x.font) ∧ w.cell? ⟨g, 1, none⟩ = some (.int .i64 x.lastFont) ∧ w.cell? ⟨g, 2, none⟩ = some (.int .i64 x.size) ∧ w.cell? ⟨g, 3, none⟩ = some (.int .i64 x.lastSize) ∧ w.cell? ⟨g, 4, none⟩ = some (.int .i64 x.vs) ∧ w.cell? ⟨g, 5, none⟩ = some (.int .i64 x.ls) ∧
    w.cell? ⟨g, 6, none⟩ = some (.int .i64 x.length) ∧ w.cell? ⟨g, 7, none⟩ = some (.int .i64 x.title) ∧ w.cell? ⟨g, 8, none⟩ = some (.int .i64 x.indent) ∧ w.cell? ⟨g, 9, none⟩ = some (.int .i64 x.temp) ∧ w.cell? ⟨g, 16, none⟩ = some (.int .i64 x.centre) ∧ w.cell? ⟨g, 17, none⟩ = some (.int .i64 x.under) ∧
    w.cell? ⟨g, 18, none⟩ = some (.int .i64 x.cross) ∧ w.cell? ⟨g, 19, none⟩ = some (.int .i64 x.space) ∧ w.cell? ⟨g, 20, none⟩ = some (.int .i64 x.sentence) ∧ w.cell? ⟨g, 28, none⟩ = some (.int .i64 x.marginAt) ∧ w.cell? ⟨g, 36, none⟩ = some (.int .i64 x.before) ∧ w.cell? ⟨g, 37, none⟩ = some (.int .i64 x.after) ∧ w.cell? ⟨g, 35, none⟩ = some v := by
  refine ⟨?_, ?_, ?_, ?_, ?_, ?_, ?_, ?_, ?_, ?_, ?_, ?_, ?_, ?_, ?_, ?_, ?_, ?_, ?_⟩ <;> rw [blk_cell hb] <;> rfl
theorem env_texts {w : World} {x : EnvT} {u v : Value} {g : Nat} (hb : w.heap[g]? = some (.cells (x.cells u v).toArray 29 (0, 0))) :
    w.cell? ⟨g, 23, none⟩ = some (.string x.tab) ∧ w.cell? ⟨g, 24, none⟩ = some (.string x.leader) ∧ w.cell? ⟨g, 25, none⟩ = some (.string x.margin) := by
  refine ⟨?_, ?_, ?_⟩ <;> rw [blk_cell hb] <;> rfl
theorem env_rest {w : World} {x : EnvT} {u v : Value} {g : Nat} (hb : w.heap[g]? = some (.cells (x.cells u v).toArray 29 (0, 0))) :
    w.cell? ⟨g, 15, none⟩ = some (.int .u8 (x.mode.toNat : Int)) ∧ w.cell? ⟨g, 26, none⟩ = some (.string x.colour) ∧ w.cell? ⟨g, 27, none⟩ = some (.string x.lastColour) ∧ w.cell? ⟨g, 21, none⟩ = some u ∧ w.cell? ⟨g, 22, none⟩ = some (.int .i64 x.every) ∧
    w.cell? ⟨g, 29, none⟩ = some (.bool x.on) ∧ w.cell? ⟨g, 30, none⟩ = some (.int .i64 x.next) ∧ w.cell? ⟨g, 31, none⟩ = some (.int .i64 x.nevery) ∧ w.cell? ⟨g, 32, none⟩ = some (.int .i64 x.nspace) ∧ w.cell? ⟨g, 33, none⟩ = some (.int .i64 x.nindent) ∧ w.cell? ⟨g, 34, none⟩ = some (.int .i64 x.nskip) ∧ w.cell? ⟨g, 35, none⟩ = some v := by
  refine ⟨?_, ?_, ?_, ?_, ?_, ?_, ?_, ?_, ?_, ?_, ?_, ?_⟩ <;> rw [blk_cell hb] <;> rfl
theorem Valid_env (x : EnvT) (cs : List Value) (ok : Nat → Prop) (w : World) (hK : envK.K w ok x cs) (hs : x.small) :
    Calls Try.prog 14 #[.agg cs.toArray] w fun e w' => e = .returned (.bool (validE x)) ∧ Below w.heap.size w w' := by
  obtain ⟨u, v, rfl, ⟨A1, c1, rfl, hl1, hc1, hr1⟩, ⟨A2, c2, rfl, hl2, hc2, hr2⟩⟩ := hK
  obtain ⟨hs1, hs2, hs3⟩ := hs
  have hvx : Hid (validE x = ((spansOf x).all inSpan && ([x.tab, x.leader, x.margin].all (fun s => textB s 10) && (inB [108, 114, 99, 98] x.mode && (textB x.colour 20 && (textB x.lastColour 20 && (stopsB x.stops x.every && (marginB x.next x.nevery x.nspace x.nindent x.nskip && x.row.all validB)))))))) := hide rfl
  have HS3 := hide hs3
  have HR1 := hide hr1
  have HR2 := hide hr2
  clear hr1 hr2 hs3
  go_enter Try.func14, Try.ntmps14
  go_upto_region 1 with fail
  refine wp_one ?_
  intro W0 hb hbel hsz
  have HB0 := hide hb
  have HBEL0 := hide hbel
  have hlt0 : w.heap.size < W0.heap.size := blk_lt hb
  obtain ⟨z0, z1, z2, z3, z4, z5, z6, z7, z8, z9, z16, z17, z18, z19, z20, z28, z36, z37, z35⟩ := env_nums hb
  clear hb hbel hsz
  go_upto_region 2 with fail
  clear z0 z1 z2 z3 z4 z5 z6 z7 z8 z9 z16 z17 z18 z19 z20 z28 z36 z37 z35
  refine wp_one ?_
  intro W1 hb hbel hsz
  have hspan : spanK.Rd W1 (fun _ => True) (some ⟨W0.heap.size, 0, none⟩) 19 (spansOf x) := rd_block (l := spansOf x) hb (reps_span (spansOf x)) trivial
  have HSP := hide hspan
  have HBEL1 := hide hbel
  clear hb hbel hsz hspan
  cases hsp : (spansOf x).all inSpan with
  | false =>
    have HF := hide hsp
    clear hsp
    go_wp2_with (go_at_call 32; refine (ContainsFunc_span _ 19 19 (spansOf x) _ _ HSP.out (by omega)).mono ?_; rw [HF.out]; rintro e w2 ⟨rfl, q⟩; have Q := hide q; clear q)
    go_ret
    exact ⟨ret_bool (by rw [hvx.out, HF.out]; rfl), HBEL0.out.trans ((below_self HBEL1.out Q.out).mono HBEL0.out.size)⟩
  | true =>
    have HF := hide hsp
    clear hsp
    go_upto_region 4 with (go_at_call 32; refine (ContainsFunc_span _ 19 19 (spansOf x) _ _ HSP.out (by omega)).mono ?_; rw [HF.out]; rintro e w2 ⟨rfl, q⟩; have Q := hide q; clear q)
    have hbe2 : Below W0.heap.size W0 w2 := below_self HBEL1.out Q.out
    have hb2 := blk_below HB0.out hbe2 (blk_lt HB0.out)
    obtain ⟨z23, z24, z25⟩ := env_texts hb2
    have HBE2 := hide (HBEL0.out.trans (hbe2.mono HBEL0.out.size))
    have HB2 := hide hb2
    clear hbe2 hb2 Q HSP HBEL1 HB0
    go_upto_region 5 with fail
    refine wp_one ?_
    intro W3 hb hbel hsz
    have hstr : Kind.str.Rd W3 (fun _ => True) (some ⟨w2.heap.size, 0, none⟩) 3 [x.tab, x.leader, x.margin] := rd_block (l := [x.tab, x.leader, x.margin]) hb (reps_str _) trivial
    have HST := hide hstr
    have HBE3 := hide (HBE2.out.trans (hbel.mono HBE2.out.size))
    have HB3 := hide (blk_below HB2.out hbel (blk_lt HB2.out))
    obtain ⟨strs, hstrs⟩ : ∃ strs, strs = [x.tab, x.leader, x.margin] := ⟨_, rfl⟩
    have hlen : strs.length = 3 := by rw [hstrs]; rfl
    rw [← hstrs] at HST hvx
    have HLEN := hide hlen
    generalize w2.heap.size = g3 at HST ⊢
    clear hb hbel hsz hstr hstrs hlen z23 z24 z25 HBE2 HB2
    go_wp2_with fail
    go_loopw [5, 75] (fun _ t75 wr => ∃ k : Nat, t75 = .int .i64 k ∧ k ≤ 3 ∧ Hid ((strs.take k).all (fun s => textB s 10) = true) ∧ Hid (Below W3.heap.size W3 wr)) (fun _ t75 _ => 3 - (intOf t75).toNat)
    case atStart => exact ⟨0, rfl, Nat.zero_le _, hide rfl, hide (Below.refl _ _)⟩
    case round =>
      obtain ⟨k, rfl, hk, HG, HB⟩ := hrel
      by_cases hlt : k < 3
      · obtain ⟨y, hy⟩ : ∃ y, strs[k]? = some y := ⟨_, List.getElem?_eq_getElem (by have := HLEN.out; omega)⟩
        obtain ⟨b, off, e0, z0⟩ := rd_str (HST.out.below HB.out) hy
        injection e0 with e0
        injection e0 with e1 e2
        subst e1
        subst e2
        rw [Nat.zero_add] at z0
        obtain ⟨hkl, hxe⟩ := List.getElem?_eq_some_iff.1 hy
        have hts : (strs.take (k + 1)).all (fun s => textB s 10) = textB y 10 := by
          rw [List.take_succ_eq_append_getElem hkl, List.all_append, HG.out, hxe]
          simp
        have hal : textB y 10 = false → strs.all (fun s => textB s 10) = false := fun h => by
          rw [List.all_eq_false]
          exact ⟨y, List.mem_of_getElem? hy, by simp [h]⟩
        have HTS := hide hts
        have HAL := hide hal
        clear hy hkl hxe hts hal
        cases hbq : textB y 10 with
        | false =>
          have HPB := hide hbq
          have HA := hide (HAL.out hbq)
          clear hbq
          go_wp2_with (go_at_call 34; refine (text_10 y _).mono ?_; rw [HPB.out]; rintro e w4 ⟨rfl, q⟩; have Q := hide q; clear q)
          go_ret
          exact ⟨ret_bool (by rw [hvx.out, HA.out, HF.out]; rfl), HBE3.out.trans ((below_self HB.out Q.out).mono HBE3.out.size)⟩
        | true =>
          have HPB := hide hbq
          have HA := hide (show (strs.take (k + 1)).all (fun s => textB s 10) = true by rw [HTS.out, hbq])
          clear hbq
          go_wp2_with (go_at_call 34; refine (text_10 y _).mono ?_; rw [HPB.out]; rintro e w4 ⟨rfl, q⟩; have Q := hide q; clear q)
          go_roundw
          case rel => exact ⟨k + 1, by go_num, by omega, HA, hide (below_self HB.out Q.out)⟩
          case measure => simp [intOf]; omega
      · have hg := HG.out
        rw [List.take_of_length_le (by have := HLEN.out; omega)] at hg
        have HA := hide hg
        clear hg
        have hb4 := blk_below HB3.out HB.out (blk_lt HB3.out)
        have HB4 := hide hb4
        have HBE4 := hide (HBE3.out.trans (HB.out.mono HBE3.out.size))
        obtain ⟨p, hp⟩ : ∃ p, p = Lib.indexByte [108, 114, 99, 98] x.mode := ⟨_, rfl⟩
        have hin : inB [108, 114, 99, 98] x.mode = decide (0 ≤ p) := by rw [hp]; rfl
        rw [hin, HF.out, HA.out] at hvx
        have HP := hide hp
        obtain ⟨y15, y26, y27, y21, y22, y29, y30, y31, y32, y33, y34, y35⟩ := env_rest hb4
        clear hb4 hp hin HBE3 HB3 HST HB HG HF
        go_wp2_with (first
          | (go_at_call 35; refine (strIndexByte _ x.mode _).mono ?_; rintro e w5 ⟨rfl, rfl⟩; rw [show (⟨#[108, 114, 99, 98]⟩ : ByteArray).data.toList = [108, 114, 99, 98] from rfl, ← HP.out])
          | (go_at_call 34
             have hh := HB5.out
             clear hh
             refine (text_20 x.lastColour _).mono ?_
             rintro e w6 ⟨rfl, q⟩
             have hb6 := blk_below HB5.out q (blk_lt HB5.out)
             have HB6 := hide hb6
             have HBE6 := hide (below_self HBE5.out q)
             obtain ⟨s15, s26, s27, s21, s22, s29, s30, s31, s32, s33, s34, s35⟩ := env_rest hb6
             clear q hb6)
          | (go_at_call 34
             refine (text_20 x.colour _).mono ?_
             rintro e w5 ⟨rfl, q⟩
             have hb5 := blk_below HB4.out q (blk_lt HB4.out)
             have HB5 := hide hb5
             have HBE5 := hide (below_self HBE4.out q)
             obtain ⟨r15, r26, r27, r21, r22, r29, r30, r31, r32, r33, r34, r35⟩ := env_rest hb5
             clear q hb5)
          | (go_at_call 36
             refine (tabsValid_any A1 c1 x.stops x.every ok _ (HR1.out.below HBE6.out) (by omega)).mono ?_
             rintro e w7 ⟨rfl, q⟩
             have hb7 := blk_below HB6.out q (blk_lt HB6.out)
             have HB7 := hide hb7
             have HBE7 := hide (below_self HBE6.out q)
             obtain ⟨t15, t26, t27, t21, t22, t29, t30, t31, t32, t33, t34, t35⟩ := env_rest hb7
             clear q hb7)
          | (go_at_call 37
             refine (marginValid_any x.on x.next x.nevery x.nspace x.nindent x.nskip _).mono ?_
             rintro e w8 ⟨rfl, q⟩
             have hb8 := blk_below HB7.out q (blk_lt HB7.out)
             have HB8 := hide hb8
             have HBE8 := hide (below_self HBE7.out q)
             obtain ⟨v15, v26, v27, v21, v22, v29, v30, v31, v32, v33, v34, v35⟩ := env_rest hb8
             clear q hb8)
          | (go_at_call 38
             refine (ContainsFunc_box (fun x => !(validB x)) 39 (fun _ _ => rfl) Valid2_tests A2 x.row.length c2 x.row ok _ (HR2.out.below HBE8.out) (by omega) (fun y hy => by have := HS3.out y hy; omega)).mono ?_
             rw [none_valid]
             rintro e w9 ⟨rfl, q⟩
             have HBE9 := hide (below_self HBE8.out q)
             clear q))
        all_goals go_ret
        all_goals refine ⟨ret_bool ?_, ?_⟩
        all_goals first
          | exact HBE9.out
          | exact HBE8.out
          | exact HBE7.out
          | exact HBE6.out
          | exact HBE5.out
          | exact HBE4.out
          | (rw [hvx.out]; simp_all; done)
          | (rw [hvx.out]; simp_all; intros; exfalso; omega)
end Go.Proofs.Ytekkjieoikgpmaa
