/- The store: Part at any entry; what is refused; Alias and Remove where they are let. -/
import Derived.Test.YtbchokjhbjnfcaaS28
set_option linter.unusedVariables false
set_option linter.unusedSimpArgs false
namespace Go.Proofs.Ytbchokjhbjnfcaa
open Go.RowKit
set_option maxHeartbeats 1600000
set_option maxRecDepth 1000000
section
variable {base : Nat} {w : World} {g b : Nat} {F : ByteArray → Option Nat} {sz : Nat} {E : Nat → Option EntS}
theorem Part_any (h : Sto base w g b F sz E) (s : ByteArray) (hs : s.size ≤ 9223372036854775807) {e : Nat} {x : EntS} (hf : F s = some e) (he : E e = some x) (n : Nat) (hn : lenL x.kind x.L = n) (htl : n ≤ 1000000) (f u : Int) (lo hi : Nat) (hlo : partLo n f u = lo) (hhi : partHi n f u = hi) :
    Calls Try.prog 12 #[.pointer (some ⟨g, 0, none⟩), .string s, .int .i64 f, .int .i64 u] w fun r w' => r = .returned (.int .i64 0) ∧ ∃ x', x'.kind = x.kind ∧ x'.L = cutL x.kind x.L lo hi ∧ Sto base w' g b F sz (updE E e x') ∧ Kept (fun k => k = e ∨ (x.lo ≤ k ∧ k < x.hi)) w w' := by
  have hE := h.each e x he
  have H := hide h
  have HHF := hide hf
  have HEE := hide hE
  have HHE := hide he
  have HNN := hide hn
  obtain ⟨pf, hpf⟩ : ∃ pf, pf = placeP n f := ⟨_, rfl⟩
  obtain ⟨pu, hpu⟩ : ∃ pu, pu = placeP n u := ⟨_, rfl⟩
  have p1 : -1 ≤ pf := by rw [hpf]; exact placeP_ge _ _ (by omega)
  have p2 : -1 ≤ pu := by rw [hpu]; exact placeP_ge _ _ (by omega)
  have p3 : pf ≤ n := by rw [hpf]; exact placeP_le _ _
  have p4 : pu ≤ n := by rw [hpu]; exact placeP_le _ _
  have hhi' : (hi : Int) = min (max pf pu + 1) n := by rw [hpf, hpu, ← hhi]; rfl
  have hlo' : (lo : Int) = min (max (min pf pu) 0) hi := by rw [hpf, hpu, ← hlo, ← hhi]; rfl
  have HPF := hide hpf
  have HPU := hide hpu
  clear h hE hf he hn hpf hpu hlo hhi
  go_enter Try.func12, Try.ntmps12
  go_upto_region 5 with (first
    | (go_at_call 33; refine (find_some H.out hs HHF.out).mono ?_; rintro e w' ⟨rfl, rfl⟩)
    | (go_at_call 34; refine (size_any HEE.out).mono ?_; rw [HNN.out]; rintro e w' ⟨rfl, rfl⟩))
  have hal : Below w.heap.size w (w.alloc (.cells #[.int .i64 n] 3)) := (Below.refl _ _).alloc (Nat.le_refl _) _
  have cb : (w.alloc (.cells #[.int .i64 n] 3)).cell? ⟨w.heap.size, 0, none⟩ = some (.int .i64 n) := by rw [blk_cell (blk_new w _)]; rfl
  have HAL := hide hal
  have HSB := hide (H.out.below hal)
  generalize (w.alloc (.cells #[.int .i64 n] 3)) = wb at HAL HSB cb ⊢
  clear hal
  go_upto_region 7 with (go_at_call 35; refine (place_any _ _ n _ htl cb).mono ?_; rintro e w' ⟨rfl, rfl⟩)
  rw [← HPF.out, ← HPU.out]
  by_cases hsw : pu < pf
  · go_upto_region 9 with fail
    have C0 := cell_after cb
    by_cases ha : 0 ≤ pu
    · by_cases hb : pf + 1 ≤ n
      · have hw : IntKind.i64.wrap (pf + 1) = pf + 1 := by rw [IntKind.wrap_i64]; omega
        refine wp_region_after (by kernel_rfl) (by kernel_rfl) ?_
        repeat (go_big_quiet_step (fail))
        refine wpQuiet_nil ?_
        intro _ hw'
        obtain ⟨q, rfl⟩ := hw'
        have HQ := hide q.h
        clear C0 hw cb
        generalize q.W = wq at HQ ⊢
        have HSQ := hide (HSB.out.below HQ.out)
        go_wp2_with (go_at_call 36; refine (cut_any HSQ.out HHE.out lo hi (by omega) (by omega) (by omega) (by rw [HNN.out]; omega) (by rw [HNN.out]; exact htl)).mono ?_; rintro r w9 ⟨rfl, x', q1, q2, q3, q4⟩; have Q1 := hide q1; have Q2 := hide q2; have Q3 := hide q3; have Q4 := hide q4; clear q1 q2 q3 q4)
        go_ret
        exact ⟨rfl, x', Q1.out, Q2.out, Q3.out, (Kept.of_below (S := fun _ => False) (below_self HAL.out HQ.out)).trans Q4.out (fun _ _ h => h.elim) (fun _ _ h => h)⟩
      · have hw : IntKind.i64.wrap (pf + 1) = pf + 1 := by rw [IntKind.wrap_i64]; omega
        refine wp_region_after (by kernel_rfl) (by kernel_rfl) ?_
        repeat (go_big_quiet_step (fail))
        refine wpQuiet_nil ?_
        intro _ hw'
        obtain ⟨q, rfl⟩ := hw'
        have HQ := hide q.h
        clear C0 hw cb
        generalize q.W = wq at HQ ⊢
        have HSQ := hide (HSB.out.below HQ.out)
        go_wp2_with (go_at_call 36; refine (cut_any HSQ.out HHE.out lo hi (by omega) (by omega) (by omega) (by rw [HNN.out]; omega) (by rw [HNN.out]; exact htl)).mono ?_; rintro r w9 ⟨rfl, x', q1, q2, q3, q4⟩; have Q1 := hide q1; have Q2 := hide q2; have Q3 := hide q3; have Q4 := hide q4; clear q1 q2 q3 q4)
        go_ret
        exact ⟨rfl, x', Q1.out, Q2.out, Q3.out, (Kept.of_below (S := fun _ => False) (below_self HAL.out HQ.out)).trans Q4.out (fun _ _ h => h.elim) (fun _ _ h => h)⟩
    · by_cases hb : pf + 1 ≤ n
      · have hw : IntKind.i64.wrap (pf + 1) = pf + 1 := by rw [IntKind.wrap_i64]; omega
        refine wp_region_after (by kernel_rfl) (by kernel_rfl) ?_
        repeat (go_big_quiet_step (fail))
        refine wpQuiet_nil ?_
        intro _ hw'
        obtain ⟨q, rfl⟩ := hw'
        have HQ := hide q.h
        clear C0 hw cb
        generalize q.W = wq at HQ ⊢
        have HSQ := hide (HSB.out.below HQ.out)
        go_wp2_with (go_at_call 36; refine (cut_any HSQ.out HHE.out lo hi (by omega) (by omega) (by omega) (by rw [HNN.out]; omega) (by rw [HNN.out]; exact htl)).mono ?_; rintro r w9 ⟨rfl, x', q1, q2, q3, q4⟩; have Q1 := hide q1; have Q2 := hide q2; have Q3 := hide q3; have Q4 := hide q4; clear q1 q2 q3 q4)
        go_ret
        exact ⟨rfl, x', Q1.out, Q2.out, Q3.out, (Kept.of_below (S := fun _ => False) (below_self HAL.out HQ.out)).trans Q4.out (fun _ _ h => h.elim) (fun _ _ h => h)⟩
      · have hw : IntKind.i64.wrap (pf + 1) = pf + 1 := by rw [IntKind.wrap_i64]; omega
        refine wp_region_after (by kernel_rfl) (by kernel_rfl) ?_
        repeat (go_big_quiet_step (fail))
        refine wpQuiet_nil ?_
        intro _ hw'
        obtain ⟨q, rfl⟩ := hw'
        have HQ := hide q.h
        clear C0 hw cb
        generalize q.W = wq at HQ ⊢
        have HSQ := hide (HSB.out.below HQ.out)
        go_wp2_with (go_at_call 36; refine (cut_any HSQ.out HHE.out lo hi (by omega) (by omega) (by omega) (by rw [HNN.out]; omega) (by rw [HNN.out]; exact htl)).mono ?_; rintro r w9 ⟨rfl, x', q1, q2, q3, q4⟩; have Q1 := hide q1; have Q2 := hide q2; have Q3 := hide q3; have Q4 := hide q4; clear q1 q2 q3 q4)
        go_ret
        exact ⟨rfl, x', Q1.out, Q2.out, Q3.out, (Kept.of_below (S := fun _ => False) (below_self HAL.out HQ.out)).trans Q4.out (fun _ _ h => h.elim) (fun _ _ h => h)⟩
  · go_upto_region 9 with fail
    have C0 := cell_after cb
    by_cases ha : 0 ≤ pf
    · by_cases hb : pu + 1 ≤ n
      · have hw : IntKind.i64.wrap (pu + 1) = pu + 1 := by rw [IntKind.wrap_i64]; omega
        refine wp_region_after (by kernel_rfl) (by kernel_rfl) ?_
        repeat (go_big_quiet_step (fail))
        refine wpQuiet_nil ?_
        intro _ hw'
        obtain ⟨q, rfl⟩ := hw'
        have HQ := hide q.h
        clear C0 hw cb
        generalize q.W = wq at HQ ⊢
        have HSQ := hide (HSB.out.below HQ.out)
        go_wp2_with (go_at_call 36; refine (cut_any HSQ.out HHE.out lo hi (by omega) (by omega) (by omega) (by rw [HNN.out]; omega) (by rw [HNN.out]; exact htl)).mono ?_; rintro r w9 ⟨rfl, x', q1, q2, q3, q4⟩; have Q1 := hide q1; have Q2 := hide q2; have Q3 := hide q3; have Q4 := hide q4; clear q1 q2 q3 q4)
        go_ret
        exact ⟨rfl, x', Q1.out, Q2.out, Q3.out, (Kept.of_below (S := fun _ => False) (below_self HAL.out HQ.out)).trans Q4.out (fun _ _ h => h.elim) (fun _ _ h => h)⟩
      · have hw : IntKind.i64.wrap (pu + 1) = pu + 1 := by rw [IntKind.wrap_i64]; omega
        refine wp_region_after (by kernel_rfl) (by kernel_rfl) ?_
        repeat (go_big_quiet_step (fail))
        refine wpQuiet_nil ?_
        intro _ hw'
        obtain ⟨q, rfl⟩ := hw'
        have HQ := hide q.h
        clear C0 hw cb
        generalize q.W = wq at HQ ⊢
        have HSQ := hide (HSB.out.below HQ.out)
        go_wp2_with (go_at_call 36; refine (cut_any HSQ.out HHE.out lo hi (by omega) (by omega) (by omega) (by rw [HNN.out]; omega) (by rw [HNN.out]; exact htl)).mono ?_; rintro r w9 ⟨rfl, x', q1, q2, q3, q4⟩; have Q1 := hide q1; have Q2 := hide q2; have Q3 := hide q3; have Q4 := hide q4; clear q1 q2 q3 q4)
        go_ret
        exact ⟨rfl, x', Q1.out, Q2.out, Q3.out, (Kept.of_below (S := fun _ => False) (below_self HAL.out HQ.out)).trans Q4.out (fun _ _ h => h.elim) (fun _ _ h => h)⟩
    · by_cases hb : pu + 1 ≤ n
      · have hw : IntKind.i64.wrap (pu + 1) = pu + 1 := by rw [IntKind.wrap_i64]; omega
        refine wp_region_after (by kernel_rfl) (by kernel_rfl) ?_
        repeat (go_big_quiet_step (fail))
        refine wpQuiet_nil ?_
        intro _ hw'
        obtain ⟨q, rfl⟩ := hw'
        have HQ := hide q.h
        clear C0 hw cb
        generalize q.W = wq at HQ ⊢
        have HSQ := hide (HSB.out.below HQ.out)
        go_wp2_with (go_at_call 36; refine (cut_any HSQ.out HHE.out lo hi (by omega) (by omega) (by omega) (by rw [HNN.out]; omega) (by rw [HNN.out]; exact htl)).mono ?_; rintro r w9 ⟨rfl, x', q1, q2, q3, q4⟩; have Q1 := hide q1; have Q2 := hide q2; have Q3 := hide q3; have Q4 := hide q4; clear q1 q2 q3 q4)
        go_ret
        exact ⟨rfl, x', Q1.out, Q2.out, Q3.out, (Kept.of_below (S := fun _ => False) (below_self HAL.out HQ.out)).trans Q4.out (fun _ _ h => h.elim) (fun _ _ h => h)⟩
      · have hw : IntKind.i64.wrap (pu + 1) = pu + 1 := by rw [IntKind.wrap_i64]; omega
        refine wp_region_after (by kernel_rfl) (by kernel_rfl) ?_
        repeat (go_big_quiet_step (fail))
        refine wpQuiet_nil ?_
        intro _ hw'
        obtain ⟨q, rfl⟩ := hw'
        have HQ := hide q.h
        clear C0 hw cb
        generalize q.W = wq at HQ ⊢
        have HSQ := hide (HSB.out.below HQ.out)
        go_wp2_with (go_at_call 36; refine (cut_any HSQ.out HHE.out lo hi (by omega) (by omega) (by omega) (by rw [HNN.out]; omega) (by rw [HNN.out]; exact htl)).mono ?_; rintro r w9 ⟨rfl, x', q1, q2, q3, q4⟩; have Q1 := hide q1; have Q2 := hide q2; have Q3 := hide q3; have Q4 := hide q4; clear q1 q2 q3 q4)
        go_ret
        exact ⟨rfl, x', Q1.out, Q2.out, Q3.out, (Kept.of_below (S := fun _ => False) (below_self HAL.out HQ.out)).trans Q4.out (fun _ _ h => h.elim) (fun _ _ h => h)⟩
theorem Define_unfit (h : Sto base w g b F sz E) (s t : ByteArray) (ht : t.size ≤ 9223372036854775807) (hfit : fitsB t = false) :
    Calls Try.prog 11 #[.pointer (some ⟨g, 0, none⟩), .string s, .string t] w fun e w' => e = .returned (.int .i64 1) ∧ w = w' := by
  have c0 := h.c0
  have HFIT := hide hfit
  clear h hfit
  go_enter Try.func11, Try.ntmps11
  go_wp2_with (first
    | (go_at_call 29; refine (gone_some _ _ _ c0).mono ?_; rintro e w' ⟨rfl, rfl⟩)
    | (go_at_call 30; refine (fits_any _ _ ht).mono ?_; rw [HFIT.out]; rintro e w' ⟨rfl, rfl⟩))
  go_ret
  exact ⟨rfl, rfl⟩
theorem put_long (h : Sto base w g b F sz E) (s : ByteArray) (hs : s.size ≤ 9223372036854775807) (kind : Int) (A : Option Addr) (n c : Nat) (hn : 2000 < n) (hn2 : n ≤ 9223372036854775807) :
    Calls Try.prog 32 #[.pointer (some ⟨g, 0, none⟩), .string s, .int .i64 kind, .slice A n c] w fun e w' => e = .returned (.int .i64 2) ∧ w = w' := by
  have c0 := h.c0
  have hl := h.map.look_ok hs
  cases hf : F s with
  | none =>
    rw [hf] at hl
    have hl2 : (Instr.lookup 47 (.map (some b)) (.string s) true).run Try.prog w = .ok (.tuple #[.pointer none, .bool false]) w := hl
    have hj : (2000 : Int) < (n : Int) := by omega
    clear hl h hf
    go_enter Try.func32, Try.ntmps32
    go_wp2_with fail
    go_ret
    exact ⟨rfl, rfl⟩
  | some e =>
    rw [hf] at hl
    have hl2 : (Instr.lookup 47 (.map (some b)) (.string s) true).run Try.prog w = .ok (.tuple #[.pointer (some ⟨e, 0, none⟩), .bool true]) w := hl
    have hj : (2000 : Int) < (n : Int) := by omega
    clear hl h hf
    go_enter Try.func32, Try.ntmps32
    go_wp2_with fail
    go_ret
    exact ⟨rfl, rfl⟩
theorem Macro_bad (h : Sto base w g b F sz E) (s : ByteArray) (A : Option Addr) (n c : Nat) (L : List LineT) (ok : Nat → Prop) (hr : lineK.Rd w ok A n L) (hn : n ≤ 9223372036854775807) (hall : L.all lineB = false) :
    Calls Try.prog 15 #[.pointer (some ⟨g, 0, none⟩), .string s, .slice A n c] w fun e w' => e = .returned (.int .i64 1) ∧ Below w.heap.size w w' := by
  have c0 := h.c0
  have HR := hide hr
  have HAL := hide hall
  clear h hr hall
  go_enter Try.func15, Try.ntmps15
  go_wp2_with (first
    | (go_at_call 29; refine (gone_some _ _ _ c0).mono ?_; rintro e w' ⟨rfl, rfl⟩)
    | (go_at_call 37; refine (Contains_Macro A n c L ok _ HR.out hn).mono ?_; rw [HAL.out]; rintro e w1 ⟨rfl, q⟩; have Q1 := hide q; clear q))
  go_ret
  exact ⟨rfl, Q1.out⟩
theorem Macro_long (h : Sto base w g b F sz E) (s : ByteArray) (hs : s.size ≤ 9223372036854775807) (A : Option Addr) (n c : Nat) (L : List LineT) (ok : Nat → Prop) (hr : lineK.Rd w ok A n L) (hn : 2000 < n) (hn2 : n ≤ 9223372036854775807) (hall : L.all lineB = true) (hnm : nameB s = true) :
    Calls Try.prog 15 #[.pointer (some ⟨g, 0, none⟩), .string s, .slice A n c] w fun e w' => e = .returned (.int .i64 2) ∧ Below w.heap.size w w' := by
  have H := hide h
  have c0 := h.c0
  have HR := hide hr
  have HAL := hide hall
  have HNM := hide hnm
  clear h hr hall hnm
  go_enter Try.func15, Try.ntmps15
  go_wp2_with (first
    | (go_at_call 29; refine (gone_some _ _ _ c0).mono ?_; rintro e w' ⟨rfl, rfl⟩)
    | (go_at_call 37; refine (Contains_Macro A n c L ok _ HR.out hn2).mono ?_; rw [HAL.out]; rintro e w1 ⟨rfl, q⟩; have Q1 := hide q; clear q)
    | (go_at_call 31; refine (named_any _ _ hs).mono ?_; rw [HNM.out]; rintro e w2 ⟨rfl, q⟩; have H2 := hide (H.out.below (below_self Q1.out q)); have Q2 := hide (below_self Q1.out q); clear q)
    | (go_at_call 32; refine (put_long H2.out s hs 2 A n c hn hn2).mono ?_; rintro e w3 ⟨rfl, rfl⟩))
  go_ret
  exact ⟨rfl, Q2.out⟩
theorem Alias_ok (h : Sto base w g b F sz E) (s old : ByteArray) (hs : s.size ≤ 9223372036854775807) (ho : old.size ≤ 9223372036854775807) (hnm : nameB s = true) {e : Nat} (hf : F s = none) (hfo : F old = some e) (hsz : sz < 500) :
    Calls Try.prog 14 #[.pointer (some ⟨g, 0, none⟩), .string s, .string old] w fun r w' => r = .returned (.int .i64 0) ∧ Sto base w' g b (upd F s (some e)) (sz + 1) E ∧ Kept (fun k => k = b) w w' := by
  have H := hide h
  have HNM := hide hnm
  have HHF := hide hf
  have HFO := hide hfo
  have hne : (s.toList == old.toList) = false := by
    rw [beq_eq_false_iff_ne]
    intro e'
    rw [Lib.toList_data, Lib.toList_data] at e'
    have := WideShapes.bytes_inj e'
    subst this
    rw [hf] at hfo
    cases hfo
  clear h hnm hf hfo
  go_enter Try.func14, Try.ntmps14
  go_wp2_with (first
    | (go_at_call 33; refine (find_some H.out ho HFO.out).mono ?_; rintro r w' ⟨rfl, rfl⟩)
    | (go_at_call 31; refine (named_any _ _ hs).mono ?_; rw [HNM.out]; rintro r w1 ⟨rfl, q⟩; have c0 := (H.out.below q).c0; have hl2 := look_none (H.out.below q) hs HHF.out; have hlen := fun ty => (H.out.below q).map.len ty; have H1 := hide (H.out.below q); have Q1 := hide q; clear q)
    | (at_mapUpdate
       refine wpList_put _ rfl _ _ _ rfl b sz F rfl H1.out.map s hs (by omega) e rfl rfl ?_
       intro w2 q1 q2
       rw [HHF.out] at q1
       have HM2 := hide q1
       have HG2 := hide q2
       clear q1 q2))
  go_ret
  have hk : Kept (fun k => k = b) w1 w2 := (Kept.of_grown HG2.out).mono (fun i _ h => (Option.some.inj h).symm)
  refine ⟨rfl, H1.out.remap hk HM2.out (fun u e' hu => ?_), (Kept.of_below (S := fun k => k = b) Q1.out).trans hk (fun _ _ h => h) (fun _ _ h => h)⟩
  by_cases h1 : u = s
  · subst h1
    rw [upd_same] at hu
    injection hu with hu
    subst hu
    exact H1.out.ent old e HFO.out
  · rw [upd_other _ _ h1] at hu
    exact H1.out.ent u e' hu
theorem Remove_ok (h : Sto base w g b F sz E) (s : ByteArray) (hs : s.size ≤ 9223372036854775807) (hnm : nameB s = true) {e : Nat} (hf : F s = some e) :
    Calls Try.prog 28 #[.pointer (some ⟨g, 0, none⟩), .string s] w fun r w' => r = .returned (.int .i64 0) ∧ Sto base w' g b (upd F s none) (sz - 1) E ∧ Kept (fun k => k = b) w w' := by
  have H := hide h
  have c0 := h.c0
  have HNM := hide hnm
  have HHF := hide hf
  clear h hnm hf
  go_enter Try.func28, Try.ntmps28
  go_wp2_with (first
    | (go_at_call 29; refine (gone_some _ _ _ c0).mono ?_; rintro e w' ⟨rfl, rfl⟩)
    | (go_at_call 31; refine (named_any _ _ hs).mono ?_; rw [HNM.out]; rintro r w1 ⟨rfl, q⟩; have c1 := (H.out.below q).c0; have H1 := hide (H.out.below q); have Q1 := hide q; clear q)
    | (at_delete
       refine wpList_drop _ rfl _ _ rfl b sz F rfl H1.out.map s hs rfl ?_
       intro w2 q1 q2
       rw [HHF.out] at q1
       have q1 : MapIs w2 b (upd F s none) (sz - 1) := q1
       have HM2 := hide q1
       have HG2 := hide q2
       clear q1 q2))
  go_ret
  have hk : Kept (fun k => k = b) w1 w2 := (Kept.of_grown HG2.out).mono (fun i _ h => (Option.some.inj h).symm)
  refine ⟨rfl, H1.out.remap hk HM2.out (fun u e' hu => ?_), (Kept.of_below (S := fun k => k = b) Q1.out).trans hk (fun _ _ h => h) (fun _ _ h => h)⟩
  by_cases h1 : u = s
  · subst h1; rw [upd_same] at hu; cases hu
  · rw [upd_other _ _ h1] at hu
    exact H1.out.ent u e' hu
end
end Go.Proofs.Ytbchokjhbjnfcaa
