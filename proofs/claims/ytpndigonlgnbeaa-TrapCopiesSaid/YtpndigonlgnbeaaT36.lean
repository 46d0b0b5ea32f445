/- The law TrapPlays: the walk. -/
import Derived.Test.YtpndigonlgnbeaaT35
import Derived.Deep.RegionHeld3
set_option linter.unusedVariables false
set_option linter.unusedSimpArgs false
namespace Go.Proofs.Ytpndigonlgnbeaa
open Go.RowKit
set_option maxHeartbeats 6400000
set_option maxRecDepth 1000000

theorem Tab.typed {b : Nat} {w : World} {g : Nat} {v : Value} {ts : List TrapT} (h : Tab b w g v ts) {k : Nat} (hk : k = g ∨ v.ownBlock = some k) : ∃ cells t, w.heap[k]? = some (.cells cells t (0, 0)) ∧ (t = 55 ∨ t = 33) := by
  rcases hk with rfl | hk
  · exact ⟨_, _, h.blk, .inl rfl⟩
  · obtain ⟨cells, hc⟩ := h.own.typed k hk
    exact ⟨_, _, hc, .inr rfl⟩
theorem RTab.typed {b : Nat} {w : World} {g : Nat} {v : Value} {ts : List TrapT} (h : RTab b w g v ts) {k : Nat} (hk : k = g ∨ v.ownBlock = some k) : ∃ cells t, w.heap[k]? = some (.cells cells t (0, 0)) ∧ (t = 68 ∨ t = 84) := by
  rcases hk with rfl | hk
  · exact ⟨_, _, h.blk, .inl rfl⟩
  · obtain ⟨cells, hc⟩ := h.own.typed k hk
    exact ⟨_, _, hc, .inr rfl⟩
theorem tab_apart {b b' : Nat} {w : World} {g g' : Nat} {v v' : Value} {ts ts' : List TrapT} (h : Tab b w g v ts) (h' : RTab b' w g' v' ts') {k : Nat} (h1 : k = g ∨ v.ownBlock = some k) (h2 : k = g' ∨ v'.ownBlock = some k) : False := by
  obtain ⟨c, t, e, ht⟩ := h.typed h1
  obtain ⟨c', t', e', ht'⟩ := h'.typed h2
  rw [e] at e'
  injection e' with e'
  injection e' with _ e'
  subst e'
  rcases ht with rfl | rfl <;> rcases ht' with ht' | ht' <;> exact absurd ht' (by decide)
theorem RTab.after_do {b b' : Nat} {w w' : World} {g g' : Nat} {v v' : Value} {ts ts' : List TrapT} (h : Tab b w g v ts) (h' : RTab b' w g' v' ts') (hk : Kept (fun k => k = g ∨ v.ownBlock = some k) w w') : RTab b' w' g' v' ts' :=
  h'.kept hk (fun e => tab_apart h h' e (.inl rfl)) (fun _ hk e => tab_apart h h' e (.inr hk))
theorem Tab.after_told {b b' : Nat} {w w' : World} {g g' : Nat} {v v' : Value} {ts ts' : List TrapT} (h : Tab b w g v ts) (h' : RTab b' w g' v' ts') (hk : Kept (fun k => k = g') w w') : Tab b w' g v ts :=
  h.kept hk (fun e => tab_apart h h' (.inl rfl) (.inl e)) (fun _ hk e => tab_apart h h' (.inr hk) (.inl e))
theorem Tab.kept_below {b B : Nat} {w w' : World} {g : Nat} {v : Value} {ts : List TrapT} (h : Tab b w g v ts) (hB : B ≤ w.heap.size) (hb : B ≤ b) (hk : Kept (fun k => k = g ∨ v.ownBlock = some k) w w') : Below B w w' :=
  hk.below hB (fun i e => e.elim (fun e => by have := h.hg; omega) (fun e => by have := (h.own.lt i e).1; omega))
theorem RTab.kept_below {b B : Nat} {w w' : World} {g : Nat} {v : Value} {ts : List TrapT} (h : RTab b w g v ts) (hB : B ≤ w.heap.size) (hb : B ≤ b) (hk : Kept (fun k => k = g) w w') : Below B w w' :=
  hk.below hB (fun i e => by have := h.hg; omega)
theorem deed_cells {w : World} {ok : Nat → Prop} {A : Option Addr} {n i : Nat} {l : List DeedT} {x : DeedT} (h : deedK.Rd w ok A n l) (hx : l[i]? = some x) :
    ∃ b off, A = some ⟨b, off, none⟩ ∧ b < w.heap.size ∧ x.s.size ≤ 9223372036854775807 ∧ w.cell? ⟨b, off + i * 3, none⟩ = some (.int .i64 x.k) ∧ w.cell? ⟨b, off + i * 3 + 1, none⟩ = some (.int .i64 x.a) ∧ w.cell? ⟨b, off + i * 3 + 2, none⟩ = some (.string x.s) := by
  obtain ⟨hi, rfl⟩ := List.getElem?_eq_some_iff.1 hx
  obtain ⟨b, off, cs, e, hb, ⟨rfl, hs⟩, hc⟩ := h.at_ hi
  exact ⟨b, off, e, hb, hs, hc 0 _ rfl, hc 1 _ rfl, hc 2 _ rfl⟩
theorem cell_below {w w' : World} {B b o : Nat} {v : Value} (hb : Below B w w') (hl : b < B) (h : w.cell? ⟨b, o, none⟩ = some v) : w'.cell? ⟨b, o, none⟩ = some v := (cell_same (hb.block b hl) o).trans h

theorem TrapPlays_any (A : Option Addr) (n c : Nat) (l : List DeedT) (len f t : Int) (w : World) (hA : deedK.Rd w (fun _ => True) A n l) (hn : n ≤ 9223372036854775807) :
    Calls Try.prog 4 #[.agg #[.slice A n c, .int .i64 len, .int .i64 f, .int .i64 t]] w fun e w' => e = .returned (.bool true) ∧ Below w.heap.size w w' := by
  have HA := hide hA
  have hln : l.length = n := hA.1
  have HLN := hide hln
  clear hA hln
  obtain ⟨zf, hzf, hzf2⟩ : ∃ z : Nat, (IntKind.u64.wrap f).tmod 1200 = (z : Int) ∧ z ≤ 1199 := by
    have h0 : 0 ≤ IntKind.u64.wrap f := by rw [IntKind.wrap_u64]; omega
    refine ⟨((IntKind.u64.wrap f).tmod 1200).toNat, ?_, ?_⟩ <;> (rw [Int.tmod_eq_emod_of_nonneg h0]; omega)
  obtain ⟨zt, hzt, hzt2⟩ : ∃ z : Nat, (IntKind.u64.wrap t).tmod 1200 = (z : Int) ∧ z ≤ 1199 := by
    have h0 : 0 ≤ IntKind.u64.wrap t := by rw [IntKind.wrap_u64]; omega
    refine ⟨((IntKind.u64.wrap t).tmod 1200).toNat, ?_, ?_⟩ <;> (rw [Int.tmod_eq_emod_of_nonneg h0]; omega)
  obtain ⟨zl, hzl, hzl2⟩ : ∃ z : Nat, (IntKind.u64.wrap len).tmod 1200 = (z : Int) ∧ z ≤ 1199 := by
    have h0 : 0 ≤ IntKind.u64.wrap len := by rw [IntKind.wrap_u64]; omega
    refine ⟨((IntKind.u64.wrap len).tmod 1200).toNat, ?_, ?_⟩ <;> (rw [Int.tmod_eq_emod_of_nonneg h0]; omega)
  have ZF := hide hzf
  have ZT := hide hzt
  have ZL := hide hzl
  clear hzf hzt hzl
  have hnew := blk_new w (.cells #[.slice A n c, .int .i64 len, .int .i64 f, .int .i64 t] 37)
  have hal : Below w.heap.size w (w.alloc (.cells #[.slice A n c, .int .i64 len, .int .i64 f, .int .i64 t] 37)) := below_one _
  have HAL := hide hal
  have d0 : (w.alloc (.cells #[.slice A n c, .int .i64 len, .int .i64 f, .int .i64 t] 37)).cell? ⟨w.heap.size, 0, none⟩ = some (.slice A n c) := by rw [blk_cell hnew]; rfl
  have d1 : (w.alloc (.cells #[.slice A n c, .int .i64 len, .int .i64 f, .int .i64 t] 37)).cell? ⟨w.heap.size, 1, none⟩ = some (.int .i64 len) := by rw [blk_cell hnew]; rfl
  have d2 : (w.alloc (.cells #[.slice A n c, .int .i64 len, .int .i64 f, .int .i64 t] 37)).cell? ⟨w.heap.size, 2, none⟩ = some (.int .i64 f) := by rw [blk_cell hnew]; rfl
  have d3 : (w.alloc (.cells #[.slice A n c, .int .i64 len, .int .i64 f, .int .i64 t] 37)).cell? ⟨w.heap.size, 3, none⟩ = some (.int .i64 t) := by rw [blk_cell hnew]; rfl
  clear hnew hal
  go_enter Try.func4, Try.ntmps4
  go_upto_region 1 with fail
  have C0 := cell_after d0
  have C1 := cell_after d1
  have C2 := cell_after d2
  have C3 := cell_after d3
  clear d0 d1 d2 d3
  refine wp_region_after (by kernel_rfl) (by kernel_rfl) ?_
  repeat (go_big_quiet_step (fail))
  refine wpQuiet_nil ?_
  intro _ hw'
  obtain ⟨q, rfl⟩ := hw'
  have HB0 := hide (below_self HAL.out q.h)
  clear C0 C1 C2 C3 HAL
  generalize q.W = w0 at HB0 ⊢
  by_cases hbig : 200 < n
  · go_wp2_with (go_at_call 11; refine (sane_any _).mono ?_; rintro e w9 ⟨rfl, q⟩; have HQ := hide (below_self HB0.out q); clear q)
    go_ret
    exact ⟨rfl, HQ.out⟩
  go_upto_region 5 with (first
    | (go_at_call 12; refine (new_any _).mono ?_; rintro e w1 ⟨rfl, q⟩; have HT1 : Hid (Tab w0.heap.size w1 w0.heap.size (.slice none 0 0) []) := hide (by rw [q]; exact new_tab w0); have HB1 : Hid (Below w0.heap.size w0 w1) := hide (by rw [q]; exact below_one _); clear q)
    | (go_at_call 13; refine (rnew_any _).mono ?_; rintro e w2 ⟨rfl, q⟩; have HR2 : Hid (RTab w1.heap.size w2 w1.heap.size (.slice none 0 0) []) := hide (by rw [q]; exact rnew_tab w1); have HB2 : Hid (Below w1.heap.size w1 w2) := hide (by rw [q]; exact below_one _); clear q))
  have HT2 := hide (HT1.out.below HB2.out)
  have HRR2 := hide (HR2.out.lower HB1.out.size)
  have HBB2 := hide (below_self HB1.out HB2.out)
  have HA0 := hide (HA.out.below HB0.out)
  generalize hgT : w0.heap.size = gT at HT2 HRR2 HBB2 HT1 HB1 HR2 ⊢
  have HGT := hide hgT
  generalize w1.heap.size = gR at HRR2 HB2 HR2 ⊢
  clear HT1 HB1 HB2 HR2 HA hgT
  go_wp2_with fail
  go_loopw [9] (fun t9 wr => ∃ (i : Nat) (v v' : Value) (ts : List TrapT), t9 = .int .i64 i ∧ i ≤ n ∧ Hid (Tab gT wr gT v ts) ∧ Hid (RTab gT wr gR v' ts) ∧ Hid (ts.length ≤ 100) ∧ Hid (Below gT w0 wr)) (fun t9 _ => n - (intOf t9).toNat)
  case atStart => exact ⟨0, _, _, [], rfl, Nat.zero_le _, HT2, HRR2, hide (by simp), HBB2⟩
  case round =>
    obtain ⟨i, v, v', ts, rfl, hi, HT, HR, HL, HB⟩ := hrel
    by_cases hlt : i < n
    · obtain ⟨x, hx⟩ : ∃ x, l[i]? = some x := ⟨_, List.getElem?_eq_getElem (by have := HLN.out; omega)⟩
      obtain ⟨b, off, rfl, hb, hs, p0, p1, p2⟩ := deed_cells HA0.out hx
      rw [HGT.out] at hb
      have HZ0 := hide p0
      have HZ1 := hide p1
      have HZ2 := hide p2
      have p0 := cell_below HB.out hb p0
      have p1 := cell_below HB.out hb p1
      have p2 := cell_below HB.out hb p2
      obtain ⟨r, hr⟩ : ∃ r, r = (doP x ts).1 := ⟨_, rfl⟩
      have hrr : (r != r) = false := by simp
      have HRS := hide hr
      have HS := hide hs
      clear hx hr hs
      go_upto_region 8 with fail
      have hdr : Below wr.heap.size wr wr.drew := (Below.refl _ _).drew
      have HTD := hide (HT.out.below hdr)
      have HRD := hide (HR.out.below hdr)
      have hsz : gT ≤ wr.drew.heap.size := Nat.le_trans (Nat.le_of_lt HT.out.lt) (Nat.le_refl _)
      have HSZ := hide hsz
      have HL2 := hide (Nat.le_trans HL.out (show 100 ≤ 1000000 by omega))
      have HBD := hide (show Below gT w0 wr.drew from HB.out.trans (hdr.mono (Nat.le_of_lt HT.out.lt)))
      have HLT := hide hb
      clear hdr hsz
      go_region_held3 (fun w' => w'.cell? ⟨b, off + i * 3, none⟩ = some (.int .i64 x.k) ∧ w'.cell? ⟨b, off + i * 3 + 1, none⟩ = some (.int .i64 x.a) ∧ w'.cell? ⟨b, off + i * 3 + 2, none⟩ = some (.string x.s)) (first | go_keep | exact ⟨HX0.out, HX1.out, HX2.out⟩ | exact ⟨HY0.out, HY1.out, HY2.out⟩)
        (first
          | (go_at_call 14
             refine (do_trap gT gT v ts x _ HTD.out HL2.out HSZ.out HS.out).mono ?_
             rw [← HRS.out]
             rintro e w3 ⟨rfl, v3, q1, q2, -⟩
             have hb3 : Below gT wr.drew w3 := Tab.kept_below HTD.out HSZ.out (Nat.le_refl _) q2
             have HT3 := hide q1
             have HR3 := hide (RTab.after_do HTD.out HRD.out q2)
             have HB3 := hide (HBD.out.trans hb3)
             have HX0 := hide (cell_below HB3.out HLT.out HZ0.out)
             have HX1 := hide (cell_below HB3.out HLT.out HZ1.out)
             have HX2 := hide (cell_below HB3.out HLT.out HZ2.out)
             clear q1 q2 hb3)
          | (go_at_call 15
             refine (told_tab gT gR v' ts x _ HR3.out HL2.out (Nat.le_of_lt HT3.out.lt) HS.out).mono ?_
             rw [← HRS.out]
             rintro e w4 ⟨rfl, v4, q1, q2, -⟩
             have HR4 := hide q1
             have HT4 := hide (Tab.after_told HT3.out HR3.out q2)
             have HB4 := hide (HB3.out.trans (RTab.kept_below HR3.out (Nat.le_of_lt HT3.out.lt) (Nat.le_refl _) q2))
             have HY0 := hide (cell_below HB4.out HLT.out HZ0.out)
             have HY1 := hide (cell_below HB4.out HLT.out HZ1.out)
             have HY2 := hide (cell_below HB4.out HLT.out HZ2.out)
             clear q1 q2))
      go_wp2_with fail
      go_roundw
      case rel => exact ⟨i + 1, v3, v4, _, by go_num, by omega, HT4, HR4, hide (doP_len HL.out), HB4⟩
      case measure => simp [intOf]; omega
    · have HBW := hide (show Below w.heap.size w wr from HB0.out.trans ((by rw [HGT.out]; exact HB.out : Below w0.heap.size w0 wr).mono HB0.out.size))
      have HTL := hide (Nat.le_trans HL.out (show 100 ≤ 1000000 by omega))
      have zf := ZF.out
      have zt := ZT.out
      have zl := ZL.out
      go_upto_region 12 with fail
      clear zf zt zl
      go_wp2_with (first
        | (go_at_call 16; have h5 := HB5.out; clear h5; refine (asked_any gT gT v gT gR v' ts _ _ _ _ (HT.out.below HB5.out) (HR.out.below HB5.out) HTL.out).mono ?_; rintro e w6 ⟨rfl, q⟩; have HB6 := hide (below_self HB5.out q); clear q)
        | (go_at_call 16; refine (asked_any gT gT v gT gR v' ts len f t _ HT.out HR.out HTL.out).mono ?_; rintro e w5 ⟨rfl, q⟩; have HB5 := hide q; clear q)
        | (go_at_call 11; refine (sane_any _).mono ?_; rintro e w7 ⟨rfl, q⟩; have HB7 := hide (below_self HB6.out q); clear q))
      all_goals go_ret
      all_goals exact ⟨rfl, below_self HBW.out HB7.out⟩
end Go.Proofs.Ytpndigonlgnbeaa
