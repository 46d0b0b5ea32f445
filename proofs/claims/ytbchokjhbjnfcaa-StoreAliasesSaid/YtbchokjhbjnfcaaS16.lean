/- The store: own of any lines: the walk. -/
import Derived.Test.YtbchokjhbjnfcaaS15
set_option linter.unusedVariables false
set_option linter.unusedSimpArgs false
namespace Go.Proofs.Ytbchokjhbjnfcaa
open Go.RowKit
set_option maxHeartbeats 3200000
set_option maxRecDepth 1000000

theorem cell_stays {w w' : World} {b o : Nat} {v : Value} (hb : Below w.heap.size w w') (h : w.cell? ⟨b, o, none⟩ = some v) : w'.cell? ⟨b, o, none⟩ = some v := (cell_same (hb.block b (cell_lt h)) o).trans h
theorem cell_put {w : World} {b o : Nat} {v : Value} (h : w.cell? ⟨b, o, none⟩ = some v) (u : Value) : (w.setCell ⟨b, o, none⟩ u).cell? ⟨b, o, none⟩ = some u := World.cell?_setCell_same' w _ u (by rw [h]; rfl)
theorem own_int {e : TypeId} {w : World} {ok ok' : Nat → Prop} {base : Nat} {v : Value} {l : List Int} (h : Kind.int.Own e w ok base v l) : Kind.int.Own e w ok' base v l := by
  obtain ⟨xs, ho, hr⟩ := h
  exact ⟨xs, ho, hr.imp fun _ _ h => h⟩
/-- One box's numbers are a new row. -/
theorem mark_box {w w4 : World} {B g1 g2 c6 k c8 : Nat} {l : List BoxT} {y : BoxT} {A8 : Option Addr} {ok : Nat → Prop} (h : (Kind.mix boxK (since B)).RowAt 76 w (fun k => k ≠ g1 ∧ k ≠ g2) g2 c6 (marked l k)) (hb : Below w.heap.size w w4) (hy : l[k]? = some y)
    (ho : Kind.int.Own 3 w4 ok w.drew.heap.size (.slice A8 y.ns.length c8) y.ns) (hc : c8 ≤ maxLen) (hl : y.ns.length ≤ c8) (hB : B ≤ w.heap.size) (hg1 : g1 < w.heap.size) :
    (Kind.mix boxK (since B)).RowAt 76 (w4.setCell ⟨g2, k * 7 + 6, none⟩ (.slice A8 y.ns.length c8)) (fun k => k ≠ g1 ∧ k ≠ g2) g2 c6 (marked l (k + 1)) := by
  have hm : maxLen = 9223372036854775807 := rfl
  have hkl : k < (marked l k).length := by rw [marked_length]; exact (List.getElem?_eq_some_iff.1 hy).1
  have hix : (marked l k)[k] = (y, false) := (List.getElem?_eq_some_iff.1 (marked_at hy)).2
  have hg2 := h.lt
  rw [← marked_set hy]
  refine (h.below hb).field (j := 6) hkl (show 6 < 7 by omega) (fun cs hcs => ?_) (fun k hk => hk.2)
  rw [hix] at hcs
  obtain ⟨A7, c7, rfl, -, -, -⟩ := hcs
  obtain ⟨A9, c9, e9, -, -, -, -, h3⟩ := (own_int (ok' := fun _ => False) ho).form
  cases e9
  refine ⟨A8, c8, rfl, hl, by omega, h3.weaken (fun q hq => ?_)⟩
  rcases hq with hq | hq
  · exact hq.elim
  · have h4 := (ho.lt q hq).1
    have h5 : w.heap.size ≤ q := h4
    exact ⟨⟨by omega, by omega⟩, by show (if true = true then B ≤ q else q < B); rw [if_pos rfl]; omega⟩
theorem own_lines (A : Option Addr) (n c : Nat) (L : List LineT) (ok : Nat → Prop) (w : World) (hr : lineK.Rd w ok A n L) (hn : n ≤ 1000000) (hsz : ∀ x ∈ L, x.boxes.length ≤ 1000000 ∧ ∀ y ∈ x.boxes, y.ns.length ≤ 17592186044416) :
    Calls Try.prog 43 #[.slice A n c] w fun e w' => ∃ v, e = .returned v ∧ LinesAt w' w.heap.size w'.heap.size v L ∧ Below w.heap.size w w' := by
  have HR := hide hr
  have HSZ := hide hsz
  have hm : maxLen = 9223372036854775807 := rfl
  have HM := hide hm
  clear hr hsz hm
  go_enter Try.func43, Try.ntmps43
  go_upto_region 2 with (go_at_call 54; refine (Clone_line A n c L ok _ HR.out (by omega)).mono ?_; rintro e w1 ⟨v1, rfl, q1, q2⟩; obtain ⟨A1, c1, rfl, -, -, -, -, -⟩ := Kind.Own.form q1; have HO1 := hide q1; have Q2 := hide q2; clear q1 q2)
  have hln : L.length ≤ 1000000 := by have := HR.out.1; omega
  have HLN := hide hln
  rcases Nat.eq_zero_or_pos L.length with h0 | h0
  · have hl : L = [] := List.eq_nil_of_length_eq_zero h0
    subst hl
    clear h0 hln
    go_wp2_with fail
    go_loopw [4, 5, 10] (fun _ _ t10 wr => t10 = .int .i64 0 ∧ w1 = wr) (fun _ _ _ _ => 0)
    case atStart => exact ⟨rfl, rfl⟩
    case round =>
      obtain ⟨rfl, rfl⟩ := hrel
      go_wp2_with fail
      go_ret
      obtain ⟨A2, c2, e2, h1, h2, -, -, h3⟩ := HO1.out.form
      cases e2
      have := HM.out
      exact ⟨_, rfl, ⟨fun _ => False, _, _, rfl, h1, by omega, Kind.Rd.nil _ _ _ _, fun k hk => hk.elim, Nat.le_refl _, fun h => absurd h (by simp)⟩, Q2.out⟩
  obtain ⟨g1, rfl, -, hg1, hrow⟩ := HO1.out.rowAt h0
  have HG1 := hide hg1
  have hm0 : (Kind.mix lineK (since w.heap.size)).RowAt 61 w1 (fun k => k ≠ g1) g1 c1 (marked L 0) := by
    rw [marked_zero]
    exact mix_map false hrow (fun k hk => ⟨by omega, hk.2⟩)
  have HM0 := hide hm0
  clear hrow hm0 HO1 hg1
  go_wp2_with fail
  go_loopw [4, 5, 10] (fun _ _ t10 wr => ∃ i : Nat, t10 = .int .i64 i ∧ i ≤ L.length ∧ Hid ((Kind.mix lineK (since w.heap.size)).RowAt 61 wr (fun k => k ≠ g1) g1 c1 (marked L i)) ∧ Hid (Below w.heap.size w wr)) (fun _ _ t10 _ => L.length - (intOf t10).toNat)
  case atStart => exact ⟨0, rfl, Nat.zero_le _, HM0, Q2⟩
  case round =>
    obtain ⟨i, rfl, hi, HRW, HB⟩ := hrel
    by_cases hlt : i < L.length
    · obtain ⟨x, hx⟩ : ∃ x, L[i]? = some x := ⟨_, List.getElem?_eq_getElem hlt⟩
      obtain ⟨hb1, hb2⟩ := HSZ.out x (List.mem_of_getElem? hx)
      obtain ⟨cs, ⟨A5, c5, rfl, ht5, hl5, hc5, hr5⟩, hcell⟩ := HRW.out.cells' (marked_at hx)
      have z4 : wr.cell? ⟨g1, i * 5 + 4, none⟩ = some (.slice A5 x.boxes.length c5) := hcell 4 _ rfl
      have HR5 := hide (show boxK.Rd wr (fun k => k ≠ g1 ∧ since w.heap.size false k) A5 x.boxes.length x.boxes from hr5)
      have HX := hide hx
      have HNS := hide hb2
      have zf := HRW.out.frozen (i * 5 + 4)
      have HBS := hide hb1
      clear hx hcell hr5 hb2
      go_upto_region 6 with (go_at_call 55
                             refine (Clone_box A5 x.boxes.length c5 x.boxes _ _ HR5.out (by omega)).mono ?_
                             rintro e w2 ⟨v2, rfl, q1, q2⟩
                             obtain ⟨A6, c6, rfl, hl6, hc6, -, -, -⟩ := Kind.Own.form q1
                             have HRW2 := hide (HRW.out.below q2)
                             have zf2 := HRW2.out.frozen (i * 5 + 4)
                             have z42 := cell_stays q2 z4
                             have HO2 := hide q1
                             have Q3 := hide q2
                             have HC6 := hide hc6
                             have HL6 := hide hl6
                             clear q1 q2 hc6 hl6)
      have hl6 : x.boxes.length ≤ c6 := HL6.out
      have hc6 : c6 ≤ 9223372036854775807 := by have := HC6.out; have := HM.out; omega
      have hg1lt : g1 < wr.heap.size := HRW.out.lt
      have fin : ∀ wz : World, (∀ k, k ≠ g1 → k < wr.heap.size → wz.heap[k]? = w2.heap[k]?) → wz.heap[g1]? = (w2.setCell ⟨g1, i * 5 + 4, none⟩ (.slice A6 x.boxes.length c6)).heap[g1]? →
          boxK.Rd wz (fun k => k ≠ g1 ∧ since w.heap.size true k) A6 x.boxes.length x.boxes → (Kind.mix lineK (since w.heap.size)).RowAt 61 wz (fun k => k ≠ g1) g1 c1 (marked L (i + 1)) := by
        intro wz f1 f2 f3
        rw [← marked_set HX.out]
        have hb := (row_bound HRW.out).below Q3.out
        have hil : i < (marked L i).length := by rw [marked_length]; exact hlt
        have hix : (marked L i)[i] = (x, false) := (List.getElem?_eq_some_iff.1 (marked_at HX.out)).2
        refine hb.refield (j := 4) hil (show 4 < 5 by omega) (fun k hk _ => f1 k hk.1 hk.2) f2 (fun k hk => hk.1) (fun k hk => hk) (fun cs hcs => ?_)
        rw [hix] at hcs
        obtain ⟨A7, c7, rfl, h1, -, -, -⟩ := hcs
        exact ⟨A6, c6, rfl, h1, hl6, hc6, f3⟩
      have FIN := hide fin
      have HG1L := hide hg1lt
      have hb3 : Below w.heap.size w (w2.setCell ⟨g1, i * 5 + 4, none⟩ (.slice A6 x.boxes.length c6)) := Below.setCell (below_self HB.out Q3.out) HG1.out _
      have z43 : (w2.setCell ⟨g1, i * 5 + 4, none⟩ (.slice A6 x.boxes.length c6)).cell? ⟨g1, i * 5 + 4, none⟩ = some (.slice A6 x.boxes.length c6) := cell_put z42 _
      have HB3 := hide hb3
      have hoth : ∀ k, k ≠ g1 → (w2.setCell ⟨g1, i * 5 + 4, none⟩ (.slice A6 x.boxes.length c6)).heap[k]? = w2.heap[k]? := fun k hk => Below.heap_setCell w2 _ _ k hk
      have HOTH := hide hoth
      have hszz : (w2.setCell ⟨g1, i * 5 + 4, none⟩ (.slice A6 x.boxes.length c6)).heap.size = w2.heap.size := by simp [World.setCell]
      have HSZZ := hide hszz
      clear fin hg1lt hb3 hoth hszz z4 z42 zf zf2 HC6 HL6
      obtain ⟨w3, hw3⟩ : ∃ w3, w3 = (w2.setCell ⟨g1, i * 5 + 4, none⟩ (.slice A6 x.boxes.length c6)) := ⟨_, rfl⟩
      rw [← hw3] at FIN HB3 z43 HOTH HSZZ ⊢
      clear hw3
      rcases Nat.eq_zero_or_pos x.boxes.length with hnb | hnb
      · have hbx : x.boxes = [] := List.eq_nil_of_length_eq_zero hnb
        have hf := FIN.out w3 (fun k h1 _ => HOTH.out k h1) rfl (by rw [hbx]; exact Kind.Rd.nil _ _ _ _)
        have HF := hide hf
        rw [hnb] at z43
        clear hf
        go_wp2_with fail
        go_loopw [5, 29] (fun _ t29 wx => t29 = .int .i64 0 ∧ w3 = wx) (fun _ _ _ => 0)
        case atStart => exact ⟨rfl, rfl⟩
        case round =>
          obtain ⟨rfl, rfl⟩ := hrel
          go_wp2_with fail
          go_roundw
          case rel => exact ⟨i + 1, by go_num, by omega, HF, HB3⟩
          case measure => simp [intOf]; omega
      · obtain ⟨g2, rfl, -, hg2, hrow⟩ := HO2.out.rowAt hnb
        have hne : g2 ≠ g1 := by have := HG1L.out; omega
        have hm0 : (Kind.mix boxK (since w.heap.size)).RowAt 76 w3 (fun k => k ≠ g1 ∧ k ≠ g2) g2 c6 (marked x.boxes 0) := by
          rw [marked_zero]
          exact (mix_map false hrow (ok' := fun k => k ≠ g1 ∧ k ≠ g2) (fun k hk => ⟨⟨hk.1.1, by have := hk.2; omega⟩, hk.1.2⟩)).step (HOTH.out g2 hne) (fun k hk _ => HOTH.out k hk.1)
        have HM2 := hide hm0
        have HG2 := hide hg2
        have HNE := hide hne
        clear hm0 hrow hg2 hne
        go_wp2_with fail
        go_loopw [5, 29] (fun _ t29 wx => ∃ k : Nat, t29 = .int .i64 k ∧ k ≤ x.boxes.length ∧ Hid ((Kind.mix boxK (since w.heap.size)).RowAt 76 wx (fun k => k ≠ g1 ∧ k ≠ g2) g2 c6 (marked x.boxes k)) ∧ Hid (Kept (fun k => k = g2) w3 wx)) (fun _ t29 _ => x.boxes.length - (intOf t29).toNat)
        case atStart => exact ⟨0, rfl, Nat.zero_le _, HM2, hide (Kept.refl _ _)⟩
        case round =>
          obtain ⟨k, rfl, hk, HRB, HKP⟩ := hrel
          have y4 : wr.cell? ⟨g1, i * 5 + 4, none⟩ = some (.slice (some ⟨g2, 0, none⟩) x.boxes.length c6) := by
            rw [← z43]
            exact cell_same (HKP.out.block g1 (cell_lt z43) (fun e => HNE.out e.symm)) _
          by_cases hkl : k < x.boxes.length
          · obtain ⟨y, hy⟩ : ∃ y, x.boxes[k]? = some y := ⟨_, List.getElem?_eq_getElem hkl⟩
            have hns := HNS.out y (List.mem_of_getElem? hy)
            obtain ⟨cs, ⟨A7, c7, rfl, hl7, hc7, hr7⟩, hcell⟩ := HRB.out.cells' (marked_at hy)
            have y6 : wr.cell? ⟨g2, k * 7 + 6, none⟩ = some (.slice A7 y.ns.length c7) := hcell 6 _ rfl
            have yf := HRB.out.frozen (k * 7 + 6)
            have HR7 := hide hr7
            have HY := hide hy
            have HY4 := hide y4
            have HY6 := hide y6
            clear hcell hr7 hy
            go_upto_region 9 with fail
            have jz1 : (i : Int) < (L.length : Int) := by omega
            have jz2 : (k : Int) < (x.boxes.length : Int) := by omega
            go_region_law (first
              | (go_simp
                 go_at_call 56
                 refine (Clone_int A7 y.ns.length c7 y.ns _ _ (HR7.out.below (Below.refl wr.heap.size wr).drew) hns).mono ?_
                 rintro e w4 ⟨v4, rfl, q1, q2⟩
                 obtain ⟨A8, c8, rfl, hl8, hc8, -, -, -⟩ := Kind.Own.form q1
                 have hbd : Below wr.heap.size wr w4 := below_self (Below.refl wr.heap.size wr).drew q2
                 have u4 := cell_stays hbd HY4.out
                 have u6 := cell_stays hbd HY6.out
                 have uf := (HRB.out.below hbd).frozen (k * 7 + 6)
                 have HO8 := hide q1
                 have HBD := hide hbd
                 have HC8 := hide hc8
                 have HL8 := hide hl8
                 clear q1 q2 hbd hc8 hl8))
            all_goals have hrow5 := mark_box HRB.out HBD.out HY.out HO8.out HC8.out HL8.out (by have := HB3.out.size; have := HKP.out.size; omega) (by have := cell_lt z43; have := HKP.out.size; omega)
            all_goals have hkp5 : Kept (fun k => k = g2) w3 (w4.setCell ⟨g2, k * 7 + 6, none⟩ (.slice A8 y.ns.length c8)) := (HKP.out.trans (Kept.of_below (S := fun _ => False) HBD.out) (fun _ _ h => h) (fun _ _ h => h.elim)).setCell (p := ⟨g2, k * 7 + 6, none⟩) (.inl rfl) _
            all_goals have HROW5 := hide hrow5
            all_goals have HKP5 := hide hkp5
            all_goals clear hrow5 hkp5
            all_goals clear u4 u6 uf y4 y6 yf
            all_goals generalize (w4.setCell ⟨g2, k * 7 + 6, none⟩ (.slice A8 y.ns.length c8)) = w5 at HROW5 HKP5 ⊢
            all_goals go_wp2_with fail
            all_goals go_roundw
            all_goals first
              | exact ⟨k + 1, by go_num, by omega, HROW5, HKP5⟩
              | (simp [intOf]; omega)
          · have hkn : k = x.boxes.length := by omega
            subst hkn
            have hrow := HRB.out
            rw [marked_all] at hrow
            have hr2 := map_mix true hrow
            have ho := hr2.own HG2.out
            obtain ⟨A9, c9, e9, -, -, -, -, h3⟩ := ho.form
            cases e9
            have hf := FIN.out wr (fun k h1 h2 => (HKP.out.block k (by have := HSZZ.out; have := Q3.out.size; omega) (fun e => by have := HG2.out; omega)).trans (HOTH.out k h1)) (HKP.out.block g1 (cell_lt z43) (fun e => HNE.out e.symm)) (h3.weaken (fun k hk => by
              rcases hk with hk | hk
              · exact ⟨hk.1.1, hk.2⟩
              · have h4 : g2 = k := Option.some.inj hk
                subst h4
                exact ⟨HNE.out, by show (if true = true then w.heap.size ≤ g2 else g2 < w.heap.size); rw [if_pos rfl]; exact Nat.le_trans HB.out.size HG2.out⟩))
            have HF := hide hf
            have HBZ := hide (show Below w.heap.size w wr from HB3.out.trans (HKP.out.below (B := w.heap.size) HB3.out.size (fun i h => by have := HG2.out; have := HB.out.size; omega)))
            clear hrow hr2 ho h3 hf hkl
            go_wp2_with fail
            go_roundw
            case rel => exact ⟨i + 1, by go_num, by omega, HF, HBZ⟩
            case measure => simp [intOf]; omega
    · have hin : i = L.length := by omega
      subst hin
      have hrow := HRW.out
      rw [marked_all] at hrow
      have hrow2 := map_mix true hrow
      have HRR := hide hrow2
      clear hrow hrow2 hlt
      go_wp2_with fail
      go_ret
      obtain ⟨cur, hbk, -⟩ := id HRR.out
      have ho := HRR.out.own HG1.out
      obtain ⟨A9, c9, e9, h1, h2, -, -, h3⟩ := ho.form
      cases e9
      have := HM.out
      refine ⟨_, rfl, ⟨_, _, _, rfl, h1, by omega, h3.bound, fun k hk => ?_, Nat.le_refl _, fun _ => ⟨g1, 0, cur, rfl, hbk⟩⟩, HB.out⟩
      obtain ⟨hk, hk2⟩ := hk
      rcases hk with hk | hk
      · exact ⟨hk.2, hk2⟩
      · have : g1 = k := Option.some.inj hk
        have := HG1.out
        omega
end Go.Proofs.Ytbchokjhbjnfcaa
