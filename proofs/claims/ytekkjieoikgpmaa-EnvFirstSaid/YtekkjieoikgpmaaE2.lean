/- env.own: an environment with memory of its own. -/
import Derived.Test.YtekkjieoikgpmaaE0b
import Derived.Test.YtekkjieoikgpmaaE1
set_option linter.unusedVariables false
set_option linter.unusedSimpArgs false
namespace Go.Proofs.Ytekkjieoikgpmaa
open Go.RowKit
set_option maxHeartbeats 3200000
set_option maxRecDepth 1000000

theorem env_c21 (x : EnvT) (u v : Value) : (x.cells u v).toArray[21]? = some u := rfl
theorem env_c35 (x : EnvT) (u v : Value) : (x.cells u v).toArray[35]? = some v := rfl
theorem env_set21 (x : EnvT) (u v u' : Value) : (x.cells u v).toArray.setIfInBounds 21 u' = (x.cells u' v).toArray := rfl
theorem env_set35 (x : EnvT) (u v v' : Value) : (x.cells u v).toArray.setIfInBounds 35 v' = (x.cells u v').toArray := rfl
theorem env_size (x : EnvT) (u v : Value) : (x.cells u v).toArray.size = 40 := rfl
theorem env_one (x : EnvT) {u v : Value} (g1 : u.oneCell' = true) (g2 : v.oneCell' = true) : (x.cells u v).toArray.all (·.oneCell') = true := by
  refine all_oneCell_toArray ?_
  simp only [EnvT.cells, List.forall_mem_cons]
  exact ⟨rfl, rfl, rfl, rfl, rfl, rfl, rfl, rfl, rfl, rfl, rfl, rfl, rfl, rfl, rfl, rfl, rfl, rfl, rfl, rfl, rfl, g1, rfl, rfl, rfl, rfl, rfl, rfl, rfl, rfl, rfl, rfl, rfl, rfl, rfl, g2, rfl, rfl, rfl, rfl, fun _ h => by cases h⟩
/-- One box's numbers are a new row. -/
theorem mark_box {w w4 : World} {B g2 c6 k c8 : Nat} {l : List BoxT} {y : BoxT} {A8 : Option Addr} {ok : Nat → Prop} (h : (Kind.mix boxK (since B)).RowAt 86 w (fun k => k ≠ g2) g2 c6 (marked l k)) (hb : Below w.heap.size w w4) (hy : l[k]? = some y)
    (ho : Kind.int.Own 3 w4 ok w.heap.size (.slice A8 y.f6.length c8) y.f6) (hc : c8 ≤ maxLen) (hl : y.f6.length ≤ c8) (hB : B ≤ w.heap.size) :
    (Kind.mix boxK (since B)).RowAt 86 (w4.setCell ⟨g2, k * 7 + 6, none⟩ (.slice A8 y.f6.length c8)) (fun k => k ≠ g2) g2 c6 (marked l (k + 1)) := by
  have hm : maxLen = 9223372036854775807 := rfl
  have hkl : k < (marked l k).length := by rw [marked_length]; exact (List.getElem?_eq_some_iff.1 hy).1
  have hix : (marked l k)[k] = (y, false) := (List.getElem?_eq_some_iff.1 (marked_at hy)).2
  have hg2 := h.lt
  rw [← marked_set hy]
  refine (h.below hb).field (j := 6) hkl (show 6 < 7 by omega) (fun cs hcs => ?_) (fun k hk => hk)
  rw [hix] at hcs
  obtain ⟨A7, c7, rfl, -, -, -⟩ := hcs
  obtain ⟨A9, c9, e9, -, -, -, -, h3⟩ := (own_int (ok' := fun _ => False) ho).form
  cases e9
  refine ⟨A8, c8, rfl, hl, by omega, h3.weaken (fun q hq => ?_)⟩
  rcases hq with hq | hq
  · exact hq.elim
  · have h4 := (ho.lt q hq).1
    exact ⟨by omega, by show (if true = true then B ≤ q else q < B); rw [if_pos rfl]; omega⟩
theorem own_stop {e : TypeId} {w : World} {ok ok' : Nat → Prop} {base : Nat} {v : Value} {l : List StopT} (h : stopK.Own e w ok base v l) : stopK.Own e w ok' base v l := by
  obtain ⟨xs, ho, hr⟩ := h
  exact ⟨xs, ho, hr.imp fun _ _ h => h⟩
theorem below_setRow {B : Nat} {w W : World} (h : Below B w W) {g : Nat} (hg : B ≤ g) (cs : Array Value) : Below B w (W.setRow g cs) :=
  ⟨h.os, h.tape, h.output, by simpa using h.size, fun k hk => (setRow_other W g k cs (by omega)).trans (h.block k hk)⟩
theorem own_end {w W : World} {x : EnvT} {u v : Value} {cs : Array Value} (h1 : stopK.Sl W (fun k => w.heap.size + 2 ≤ k) u x.stops) (h2 : boxK.Sl W (fun k => w.heap.size + 2 ≤ k) v x.row) (hb : Below w.heap.size w W) :
    envK.K (W.setRow (w.heap.size + 1) cs) (fun k => w.heap.size ≤ k) x (x.cells u v) ∧ Below w.heap.size w (W.setRow (w.heap.size + 1) cs) :=
  ⟨⟨u, v, rfl, (h1.step fun k hk _ => setRow_other W _ k cs (by omega)).weaken (fun k hk => by omega), (h2.step fun k hk _ => setRow_other W _ k cs (by omega)).weaken (fun k hk => by omega)⟩, below_setRow hb (by omega) cs⟩
theorem own_any (x : EnvT) (cs : List Value) (ok : Nat → Prop) (w : World) (hK : envK.K w ok x cs) (hs : x.small) :
    Calls Try.prog 52 #[.agg cs.toArray] w fun e w' => ∃ cs', e = .returned (.agg cs'.toArray) ∧ envK.K w' (fun k => w.heap.size ≤ k) x cs' ∧ Below w.heap.size w w' := by
  obtain ⟨u, v, rfl, ⟨A1, c1, rfl, hl1, hc1, hr1⟩, ⟨A2, c2, rfl, hl2, hc2, hr2⟩⟩ := hK
  obtain ⟨hs1, hs2, hs3⟩ := hs
  have HS3 := hide hs3
  have HR1 := hide hr1
  have HR2 := hide hr2.bound
  have hm : maxLen = 9223372036854775807 := rfl
  have HM := hide hm
  clear hr1 hr2 hs3 hm
  go_enter Try.func52, Try.ntmps52
  go_upto_region 1 with fail
  refine wp_two ?_
  intro W0 hb hz hbel hsz
  have z21 : W0.cell? ⟨w.heap.size, 21, none⟩ = some (.slice A1 x.stops.length c1) := by rw [blk_cell hb]; rfl
  have HB0 := hide hb
  have HZ0 := hide hz
  have HBEL0 := hide hbel
  have HSZ0 := hide hsz
  clear hb hz hbel hsz
  go_upto_region 2 with (go_at_call 78
                         refine (Clone_stop A1 x.stops.length c1 x.stops ok _ (HR1.out.below HBEL0.out) hs1).mono ?_
                         rintro e w1 ⟨v1, rfl, q1, q2⟩
                         have hb1 := blk_below HB0.out q2 (blk_lt HB0.out)
                         have z21b : w1.cell? ⟨w.heap.size, 21, none⟩ = some (.slice A1 x.stops.length c1) := by rw [blk_cell hb1]; rfl
                         have zf : w1.frozen? ⟨w.heap.size, 21, none⟩ = false := blk_frozen hb1
                         obtain ⟨A3, c3, rfl, -, -, -, -, -⟩ := Kind.Own.form q1
                         have HO1 := hide q1
                         have Q1 := hide q2
                         have HB1 := hide hb1
                         clear q1 q2 hb1)
  refine wp_set HB1.out ?_
  rw [env_set21]
  intro W1 hb hk hsz
  have z35 : W1.cell? ⟨w.heap.size, 35, none⟩ = some (.slice A2 x.row.length c2) := by rw [blk_cell hb]; rfl
  have hbw : Below w.heap.size w W1 := (hk.trans (Kept.refl (fun k => k = w.heap.size) _) (fun _ _ h => h) (fun _ _ h => h)).below (B := w.heap.size) (Nat.le_trans HBEL0.out.size Q1.out.size) (fun i h => by omega) |> fun h => (HBEL0.out.trans (Q1.out.mono HBEL0.out.size)).trans h
  have hz1 := blk_kept (blk_below HZ0.out Q1.out (blk_lt HZ0.out)) hk (by omega)
  have ho1 := (own_stop (ok' := fun _ => False) HO1.out).step (w' := W1) (fun k h => hk.block k (HO1.out.lt k h).2 (by have := (HO1.out.lt k h).1; have := HSZ0.out; omega)) (fun k h _ => h.elim)
  have hsl1 : stopK.Sl W1 (fun k => w.heap.size + 2 ≤ k) (.slice A3 x.stops.length c3) x.stops := ho1.sl.weaken (fun k h => h.elim (fun h => h.elim) (fun h => by have := HSZ0.out; omega))
  have HSL1 := hide hsl1.bound
  have HC1 := hide hb
  have HZ1 := hide hz1
  have HBW := hide hbw
  have hsz1 : w.heap.size + 2 ≤ W1.heap.size := by have := HSZ0.out; have := Q1.out.size; omega
  have HSZ1 := hide hsz1
  clear ho1 hsl1 hb hz1 hbw hk hsz hsz1 z21 z21b zf HO1 HB1 Q1 HB0 HZ0 HBEL0 HSZ0 HR1
  go_upto_region 3 with (go_at_call 79
                         refine (Clone_box A2 x.row.length c2 x.row _ _ (HR2.out.below HBW.out) hs2).mono ?_
                         rintro e w2 ⟨v2, rfl, q1, q2⟩
                         have hb2 := blk_below HC1.out q2 (blk_lt HC1.out)
                         have z35b : w2.cell? ⟨w.heap.size, 35, none⟩ = some (.slice A2 x.row.length c2) := by rw [blk_cell hb2]; rfl
                         have zf : w2.frozen? ⟨w.heap.size, 35, none⟩ = false := blk_frozen hb2
                         obtain ⟨A4, c4, rfl, -, -, -, -, -⟩ := Kind.Own.form q1
                         have HO2 := hide q1
                         have Q2 := hide q2
                         have HB2 := hide hb2
                         clear q1 q2 hb2)
  refine wp_set HB2.out ?_
  rw [env_set35]
  intro W2 hb hk hsz
  have hbw : Below w.heap.size w W2 := (HBW.out.trans (Q2.out.mono HBW.out.size)).trans (hk.below (Nat.le_trans HBW.out.size Q2.out.size) (fun i h => by omega))
  have hz1 := blk_kept (blk_below HZ1.out Q2.out (blk_lt HZ1.out)) hk (by omega)
  have hsl := HSL1.out.step (w' := W2) (fun k h1 h2 => (hk.block k (by have := Q2.out.size; omega) (by have := h1.1; omega)).trans (Q2.out.block k h2))
  have ho2 := HO2.out.step (w' := W2) (fun k h => hk.block k (HO2.out.lt k h).2 (by have := (HO2.out.lt k h).1; have := HSZ1.out; omega)) (fun k h h2 => hk.block k h2 (by omega))
  have HSL := hide hsl
  have HC := hide hb
  have HZ := hide hz1
  have HBW2 := hide hbw
  have HO := hide ho2
  have hsz2 : w.heap.size + 2 ≤ W1.heap.size := HSZ1.out
  have HSZ2 := hide hsz2
  clear hb hz1 hbw hk hsz hsz2 z35 z35b zf HO2 HB2 Q2 HC1 HZ1 HBW HSL1 hsl ho2
  rcases Nat.eq_zero_or_pos x.row.length with h0 | h0
  · have z35 : W2.cell? ⟨w.heap.size, 35, none⟩ = some (.slice A4 x.row.length c4) := by rw [blk_cell HC.out]; rfl
    rw [h0] at z35
    have HX0 := hide h0
    have hbox : boxK.Sl W2 (fun k => w.heap.size + 2 ≤ k) (.slice A4 x.row.length c4) x.row := by
      obtain ⟨A5, c5, e5, h1, h2, -, -, h3⟩ := HO.out.form
      cases e5
      have hl0 : x.row = [] := List.eq_nil_of_length_eq_zero h0
      have hm := HM.out
      rw [hl0] at h3 h1 ⊢
      exact ⟨_, _, rfl, h1, by omega, Kind.Rd.nil _ _ _ _⟩
    have HBOX := hide hbox
    clear h0 hbox
    go_wp2_with fail
    go_loopw [3, 17] (fun _ t17 wr => t17 = .int .i64 0 ∧ W2 = wr) (fun _ _ _ => 0)
    case atStart => exact ⟨rfl, rfl⟩
    case round =>
      obtain ⟨rfl, rfl⟩ := hrel
      go_wp2_with (first
        | refine wpList_load_row rfl 29 _ rfl w.heap.size rfl 29 _ (0, 0) _ HC.out Try.underlying29 rfl size_env ?_
        | refine wpList_store_row rfl 29 _ _ rfl (w.heap.size + 1) _ rfl rfl 29 _ HZ.out size_env rfl (env_one x HSL.out.one HBOX.out.one) ?_)
      refine bodyPost_ret (results_cell_row rfl _ _ (w.heap.size + 1) 29 _ (0, 0) _ rfl (setRow_heap _ _ _ _ _ _ HZ.out) Try.underlying29 rfl size_env) rfl ?_
      have he := own_end (cs := (x.cells (Value.slice A3 x.stops.length c3) (Value.slice A4 x.row.length c4)).toArray) (HSL.out.weaken fun k h => h.1) HBOX.out HBW2.out
      exact ⟨_, rfl, he.1, he.2⟩
  obtain ⟨g1, rfl, -, hg1, hrow⟩ := HO.out.rowAt h0
  have HG1 := hide hg1
  have hm0 : (Kind.mix boxK (since (w.heap.size + 2))).RowAt 86 W2 (fun k => k ≠ g1) g1 c4 (marked x.row 0) := by
    rw [marked_zero]
    exact mix_map false hrow (fun k hk => ⟨by omega, by show (if false = true then _ else k < _); rw [if_neg (by simp)]; omega⟩)
  have HM0 := hide hm0
  have z35 : W2.cell? ⟨w.heap.size, 35, none⟩ = some (.slice (some ⟨g1, 0, none⟩) x.row.length c4) := by rw [blk_cell HC.out]; rfl
  clear hrow hm0 HO hg1
  go_wp2_with fail
  go_loopw [3, 17] (fun _ t17 wr => ∃ i : Nat, t17 = .int .i64 i ∧ i ≤ x.row.length ∧ Hid ((Kind.mix boxK (since (w.heap.size + 2))).RowAt 86 wr (fun k => k ≠ g1) g1 c4 (marked x.row i)) ∧ Hid (Kept (fun k => k = g1) W2 wr)) (fun _ t17 _ => x.row.length - (intOf t17).toNat)
  case atStart => exact ⟨0, rfl, Nat.zero_le _, HM0, hide (Kept.refl _ _)⟩
  case round =>
    obtain ⟨i, rfl, hi, HRW, HK⟩ := hrel
    have hge : w.heap.size + 2 ≤ g1 := by have := HG1.out; have := HSZ2.out; omega
    by_cases hlt : i < x.row.length
    · obtain ⟨y, hy⟩ : ∃ y, x.row[i]? = some y := ⟨_, List.getElem?_eq_getElem hlt⟩
      have hb1 := HS3.out y (List.mem_of_getElem? hy)
      obtain ⟨cs, ⟨A5, c5, rfl, hl5, hc5, hr5⟩, hcell⟩ := HRW.out.cells' (marked_at hy)
      have z6 : wr.cell? ⟨g1, i * 7 + 6, none⟩ = some (.slice A5 y.f6.length c5) := hcell 6 _ rfl
      have hcr := blk_kept HC.out HK.out (by omega)
      have z35r : wr.cell? ⟨w.heap.size, 35, none⟩ = some (.slice (some ⟨g1, 0, none⟩) x.row.length c4) := by rw [blk_cell hcr]; rfl
      have HR5 := hide hr5
      have HX := hide hy
      have zf := HRW.out.frozen (i * 7 + 6)
      clear hcell hr5 hy hcr
      have HY4 := hide z35r
      have HY6 := hide z6
      go_upto_region 6 with fail
      have jz1 : (i : Int) < (x.row.length : Int) := by omega
      go_region_law (first
        | (go_simp
           go_at_call 80
           refine (Clone_int A5 y.f6.length c5 y.f6 _ _ (HR5.out.below (Below.refl wr.heap.size wr).drew) hb1).mono ?_
           rintro e w4 ⟨v4, rfl, q1, q2⟩
           obtain ⟨A8, c8, rfl, hl8, hc8, -, -, -⟩ := Kind.Own.form q1
           have hbd : Below wr.heap.size wr w4 := below_self (Below.refl wr.heap.size wr).drew q2
           have u4 := cell_stays hbd HY4.out
           have u6 := cell_stays hbd HY6.out
           have uf := (HRW.out.below hbd).frozen (i * 7 + 6)
           have HO8 := hide q1
           have HBD := hide hbd
           have HC8 := hide hc8
           have HL8 := hide hl8
           clear q1 q2 hbd hc8 hl8))
      all_goals have hrow5 := mark_box HRW.out HBD.out HX.out HO8.out HC8.out HL8.out (by have := HK.out.size; have := HSZ2.out; have := HRW.out.lt; have := HG1.out; omega)
      all_goals have hkp5 : Kept (fun k => k = g1) W2 (w4.setCell ⟨g1, i * 7 + 6, none⟩ (.slice A8 y.f6.length c8)) := (HK.out.trans (Kept.of_below (S := fun _ => False) HBD.out) (fun _ _ h => h) (fun _ _ h => h.elim)).setCell (p := ⟨g1, i * 7 + 6, none⟩) (.inl rfl) _
      all_goals have HROW5 := hide hrow5
      all_goals have HKP5 := hide hkp5
      all_goals clear hrow5 hkp5
      all_goals clear u4 u6 uf z35r z6 zf
      all_goals generalize (w4.setCell ⟨g1, i * 7 + 6, none⟩ (.slice A8 y.f6.length c8)) = w5 at HROW5 HKP5 ⊢
      all_goals go_wp2_with fail
      all_goals go_roundw
      all_goals first
        | exact ⟨i + 1, by go_num, by omega, HROW5, HKP5⟩
        | (simp [intOf]; omega)
    · have hin : i = x.row.length := by omega
      subst hin
      have hrow := HRW.out
      rw [marked_all] at hrow
      have hrow2 := map_mix true hrow
      have ho := hrow2.own (base := w.heap.size + 2) hge
      have hbox : boxK.Sl wr (fun k => w.heap.size + 2 ≤ k) (.slice (some ⟨g1, 0, none⟩) x.row.length c4) x.row := ho.sl.weaken (fun k hk => hk.elim (fun h => by have := h.2; unfold since at this; rw [if_pos rfl] at this; exact this) id)
      have hstop : stopK.Sl wr (fun k => w.heap.size + 2 ≤ k) (.slice A3 x.stops.length c3) x.stops := (HSL.out.step (fun k h1 h2 => HK.out.block k h2 (by have := HG1.out; have := h1.2; omega))).weaken (fun k h => h.1)
      have HC' := hide (blk_kept HC.out HK.out (by omega))
      have HZ' := hide (blk_kept HZ.out HK.out (by omega))
      have HSTOP := hide hstop
      have HBOX := hide hbox
      have z35r : wr.cell? ⟨w.heap.size, 35, none⟩ = some (.slice (some ⟨g1, 0, none⟩) x.row.length c4) := by rw [blk_cell HC'.out]; rfl
      clear hrow hrow2 ho hbox hstop
      go_wp2_with (first
        | refine wpList_load_row rfl 29 _ rfl w.heap.size rfl 29 _ (0, 0) _ HC'.out Try.underlying29 rfl size_env ?_
        | refine wpList_store_row rfl 29 _ _ rfl (w.heap.size + 1) _ rfl rfl 29 _ HZ'.out size_env rfl (env_one x HSTOP.out.one HBOX.out.one) ?_)
      refine bodyPost_ret (results_cell_row rfl _ _ (w.heap.size + 1) 29 _ (0, 0) _ rfl (setRow_heap _ _ _ _ _ _ HZ'.out) Try.underlying29 rfl size_env) rfl ?_
      have he := own_end (cs := (x.cells (Value.slice A3 x.stops.length c3) (Value.slice (some ⟨g1, 0, none⟩) x.row.length c4)).toArray) HSTOP.out HBOX.out (HBW2.out.trans (HK.out.below HBW2.out.size (fun i h => by omega)))
      exact ⟨_, rfl, he.1, he.2⟩
end Go.Proofs.Ytekkjieoikgpmaa
