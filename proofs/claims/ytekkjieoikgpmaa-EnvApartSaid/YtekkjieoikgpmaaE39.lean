/- The law EnvApart: its walk. -/
import Derived.Test.YtekkjieoikgpmaaE38
set_option linter.unusedVariables false
set_option linter.unusedSimpArgs false
namespace Go.Proofs.Ytekkjieoikgpmaa
open Go.RowKit
set_option maxHeartbeats 6400000
set_option maxRecDepth 1000000
theorem KO.after {F F2 : ByteArray → Option EnvT} {m : List EnvT} {sz sz2 k : Nat} {x : EnvT} (h : KO F m) (hl : m.length = 3) (hc : sz + cnt F (nm3 1) + cnt F (nm3 2) ≤ 3) (h0 : ∃ y, F (nm3 0) = some y) (hk : k < 3) (hx : m[k]? = some x)
    (hq : (F2 = F ∧ sz2 = sz) ∨ (F (nm3 k) = none ∧ F2 = updT F (nm3 k) firstT ∧ sz2 = sz + 1)) (hh : ∃ y, F2 (nm3 k) = some y) : F2 (nm3 k) = some x ∧ KO F2 m ∧ sz2 + cnt F2 (nm3 1) + cnt F2 (nm3 2) ≤ 3 ∧ ∃ y, F2 (nm3 0) = some y := by
  rcases hq with ⟨e1, e2⟩ | ⟨e0, e1, e2⟩
  · subst e1; subst e2
    refine ⟨?_, h, hc, h0⟩
    rcases h k hk with e | ⟨e, -⟩
    · rw [e, hx]
    · obtain ⟨y, hy⟩ := hh; rw [e] at hy; cases hy
  · subst e1; subst e2
    obtain ⟨h1, h2⟩ := h.enter hl hk e0
    rw [h2] at hx
    obtain rfl := Option.some.inj hx
    refine ⟨updT_same _ _ _, h1, by have := cnt_enter hk h0 e0 firstT; omega, ?_⟩
    by_cases e : k = 0
    · subst e; exact ⟨_, updT_same _ _ _⟩
    · obtain ⟨y, hy⟩ := h0
      exact ⟨y, by rw [updT_other _ _ (nm3_ne (by omega) hk (fun h => e h.symm))]; exact hy⟩
theorem EnvApart_any (A : Option Addr) (n c : Nat) (L : List Int) (ok : Nat → Prop) (w : World) (hr : Kind.int.Rd w ok A n L) (hb : ∀ z ∈ L, inI z) (hn : n ≤ 1000000000000000) :
    Calls Try.prog 5 #[.slice A n c] w fun e w' => e = .returned (.bool true) ∧ Below w.heap.size w w' := by
  have HR := hide hr
  have HBD := hide hb
  have HLN := hide hr.1
  clear hr hb
  by_cases h200 : 200 < n
  · have jz : (200 : Int) < (n : Int) := by omega
    go_enter Try.func5, Try.ntmps5
    go_wp2_with (go_at_call 9; refine (sane_any _).mono ?_; rintro e w1 ⟨rfl, q⟩; have Q := hide q; clear q)
    go_ret
    exact ⟨rfl, Q.out⟩
  have jz : ¬ (200 : Int) < (n : Int) := by omega
  go_enter Try.func5, Try.ntmps5
  go_upto_region 4 with (go_at_call 17
                         refine (New_any _).mono ?_
                         rintro e w1 ⟨g, b, rfl, q1, q2, q3, q4⟩
                         have HG := hide q1
                         have HB0 := hide q2
                         have HE1 := hide q3
                         have HBE1 := hide q4
                         clear q1 q2 q3 q4)
  go_upto_region 5 with fail
  refine wp_one ?_
  intro W2 hnb hbel2 hsz2
  have hnbm : ¬ Mut g b (.slice none 0 0) w1.heap.size := fun e => by have := HE1.out.mut_lt _ e; omega
  have HNB := hide (show NamesAt W2 g b (.slice none 0 0) w1.heap.size from ⟨hnbm, hnb⟩)
  have HE2 := hide (HE1.out.below hbel2)
  have HBE2 := hide (HBE1.out.trans (hbel2.mono HBE1.out.size))
  have HF := hide (Below.refl W2.heap.size W2)
  clear hnb hbel2 hsz2 hnbm HE1 HBE1
  generalize w1.heap.size = NB at HNB ⊢
  go_upto_region 6 with (first
    | (go_at_call 12; refine (First_any _).mono ?_; rintro e wF ⟨rfl, q⟩; have HF := hide (HF.out.trans (q.mono HF.out.size)); clear q)
    | refine wpList_bs3 rfl 61 (Operand.tmp 15) (Operand.tmp 16) (Operand.tmp 17) rfl (.agg firstCs.toArray) (.agg firstCs.toArray) (.agg firstCs.toArray) _ rfl rfl rfl (build_three _) ?_)
  have hrow := kept_first wF 29 (okK g b (.slice none 0 0) wF.heap.size)
  have hbF : Below wF.heap.size wF (wF.alloc (.cells firstCs3.toArray 29)) := (Below.refl _ _).alloc (Nat.le_refl _) _
  have hszF : (wF.alloc (.cells firstCs3.toArray 29)).heap.size = wF.heap.size + 1 := by simp
  generalize (wF.alloc (.cells firstCs3.toArray 29)) = W6 at hrow hbF hszF ⊢
  have hEF := HE2.out.below HF.out
  have HM0 := hide (show ∀ k, Mut g b (.slice none 0 0) k → w.heap.size ≤ k from fun k hk => by
    rcases hk with hk | hk | hk
    · rw [hk]; exact HG.out
    · rw [hk]; exact HB0.out
    · simp [Value.ownBlock] at hk)
  have HE6 := hide (hEF.avoid hbF (Y := fun k => k = wF.heap.size) (fun k hk => by omega))
  have HKR6 := hide (show KeptRow W6 g b (.slice none 0 0) wF.heap.size [firstT, firstT, firstT] from ⟨hrow, fun e => by have := hEF.mut_lt _ e; omega, rfl⟩)
  have HNM6 := hide (HNB.out.kept ((Kept.of_below (S := Mut g b (.slice none 0 0)) (HF.out.trans (hbF.mono HF.out.size)))) (fun _ h => .inl h))
  have HB6 := hide (HBE2.out.trans ((HF.out.trans (hbF.mono HF.out.size)).mono HBE2.out.size))
  have HKBW := hide (show w.heap.size ≤ wF.heap.size from Nat.le_trans HBE2.out.size HF.out.size)
  clear hrow hbF hszF hEF HE2 HNB HBE2 HF jz h200
  generalize wF.heap.size = KB at HE6 HKR6 HKBW ⊢
  go_wp2_with fail
  go_loopw [6, 7, 8] (fun t6 _ _ wr => ∃ (i : Nat) (F : ByteArray → Option EnvT) (sz : Nat) (sv : Value) (m : List EnvT), t6 = .int .i64 i ∧ i ≤ n ∧ Hid (EnvsAt (fun k => False ∨ k = KB) wr g b F sz name0 sv []) ∧ Hid (KO F m ∧ sz + cnt F (nm3 1) + cnt F (nm3 2) ≤ 3 ∧ ∃ y, F (nm3 0) = some y) ∧ Hid (KeptRow wr g b sv KB m) ∧ Hid (NamesAt wr g b sv NB) ∧ Hid (∀ k, Mut g b sv k → w.heap.size ≤ k) ∧ Hid (Below w.heap.size w wr)) (fun t6 _ _ _ => n - (intOf t6).toNat)
  case atStart =>
    refine ⟨0, _, 1, _, _, rfl, Nat.zero_le _, HE6, hide ⟨fun k hk => ?_, ?_, ⟨firstT, updT_same _ _ _⟩⟩, HKR6, HNM6, HM0, HB6⟩
    · have h : k = 0 ∨ k = 1 ∨ k = 2 := by omega
      rcases h with rfl | rfl | rfl
      · exact .inl (updT_same _ _ _)
      · exact .inr ⟨updT_other _ _ (by decide), rfl⟩
      · exact .inr ⟨updT_other _ _ (by decide), rfl⟩
    · have e1 : cnt (updT (fun _ => none) name0 firstT) (nm3 1) = 1 := by unfold cnt; rw [updT_other _ _ (by decide)]; rfl
      have e2 : cnt (updT (fun _ => none) name0 firstT) (nm3 2) = 1 := by unfold cnt; rw [updT_other _ _ (by decide)]; rfl
      omega
  case round =>
    clear HE6 HKR6 HNM6 HM0 HB6
    obtain ⟨i, F, sz, sv, m, rfl, hi, HE, HKO, HKR, HNM, HM, HBE⟩ := hrel
    by_cases hlt : i < n
    · obtain ⟨z, hzx⟩ : ∃ z, L[i]? = some z := ⟨_, List.getElem?_eq_getElem (by have := HLN.out; omega)⟩
      have hz : inI z := HBD.out z (List.mem_of_getElem? hzx)
      obtain ⟨b2, o2, rfl, p0w⟩ := rd_int2 HR.out hzx
      have HB2W := hide (show b2 < w.heap.size from cell_lt p0w)
      have HP0W := hide p0w
      have p0 := cell_stays HBE.out p0w
      have jz : (i : Int) < (n : Int) := by omega
      obtain ⟨k, hk, hk3⟩ := umod z 3 (by omega)
      have hk3n : k < 3 := by omega
      obtain ⟨n3, hn3, hn3a, hn3b⟩ := tdiv_b z 3 (by decide) hz.1 hz.2
      have HN3 := hide (show inI n3 from ⟨hn3a, hn3b⟩)
      have HTD := hide hn3
      obtain ⟨x, hx⟩ : ∃ x, m[k]? = some x := ⟨_, List.getElem?_eq_getElem (by rw [HKR.out.len]; exact hk3n)⟩
      have HX := hide hx
      obtain ⟨csk, hKk, hrk, hlk⟩ := HKR.out.get hx
      have HKK := hide hKk
      have HLK := hide hlk
      have p1 := HNM.out.get hk3n
      have HSALL := hide (show ∀ Y : World, Y.heap[NB]? = wr.heap[NB]? → Y.heap[KB]? = wr.heap[KB]? → (fun w' : World => w'.cell? ⟨NB, k, none⟩ = some (.string (nm3 k)) ∧ w'.rangeAt KB (k * 40) csk) Y from fun Y h1 h2 => ⟨(cell_same h1 _).trans p1, fun j v hv => (cell_same h2 _).trans (hrk j v hv)⟩)
      have HK3N := hide hk3n
      clear hzx p0w hz hn3 hn3a hn3b hx hKk hrk hlk p1 hk3n
      go_upto_region 10 with fail
      clear p0 hk
      refine wp_region_held_drew (S := (fun w' => w'.cell? ⟨NB, k, none⟩ = some (.string (nm3 k)) ∧ w'.rangeAt KB (k * 40) csk)) (by kernel_rfl) (HSALL.out _ rfl rfl) (fun hHeld => ?_)
      refine wpAnyH_take (i := 0) (v := ?_) rfl (by kernel_rfl) (by kernel_rfl) (by kernel_rfl) (fun _ _ _ h => h) (Or.inl ⟨by rfl, ?_⟩) (by assumption) ?_
      rotate_left
      · intro wq hSw
        try dsimp only at hSw
        go_simp
        try with_reducible rfl
      simp only [Act.put, List.setIfInBounds_toArray, List.set_cons_zero, List.set_cons_succ]
      refine wpAnyH_take (i := 1) (v := ?_) rfl (by kernel_rfl) (by kernel_rfl) (by kernel_rfl) (fun _ _ _ h => h) (Or.inl ⟨by rfl, ?_⟩) (by assumption) ?_
      rotate_left
      · intro wq hSw
        try dsimp only at hSw
        go_simp
        try with_reducible rfl
      simp only [Act.put, List.setIfInBounds_toArray, List.set_cons_zero, List.set_cons_succ]
      refine wpAnyH_take (i := 2) (v := ?_) rfl (by kernel_rfl) (by kernel_rfl) (by kernel_rfl) (fun _ _ _ h => h) (Or.inl ⟨by rfl, ?_⟩) (by assumption) ?_
      rotate_left
      · intro wq hSw
        try dsimp only at hSw
        go_simp
        try with_reducible rfl
      simp only [Act.put, List.setIfInBounds_toArray, List.set_cons_zero, List.set_cons_succ]
      refine wpAnyH_take (i := 3) (v := ?_) rfl (by kernel_rfl) (by kernel_rfl) (by kernel_rfl) (fun _ _ _ h => h) (Or.inl ⟨by rfl, ?_⟩) (by assumption) ?_
      rotate_left
      · intro wq hSw
        try dsimp only at hSw
        go_simp
        try with_reducible rfl
      simp only [Act.put, List.setIfInBounds_toArray, List.set_cons_zero, List.set_cons_succ]
      refine wpAnyH_take (i := 4) (v := ?_) rfl (by kernel_rfl) (by kernel_rfl) (by kernel_rfl) (fun _ _ _ h => h) (Or.inl ⟨by rfl, ?_⟩) (by assumption) ?_
      rotate_left
      · intro wq hSw
        try dsimp only at hSw
        go_simp
        try with_reducible rfl
      simp only [Act.put, List.setIfInBounds_toArray, List.set_cons_zero, List.set_cons_succ]
      refine wpAnyH_ready (rs := [5]) (by kernel_rfl) (by simp) (AllReadyH.cons rfl (fun K hK => ?_) AllReadyH.nil)
      go_simp
      refine (Enter_any (HE.out.below (Below.refl wr.heap.size wr).drew) (nm3_ok k).2 (nm3_ok k).1 (by show 0 < 20; omega) (by have := HKO.out.2.1; omega)).mono ?_
      rintro e w2 ⟨rfl, sv2, F2, sz2, q1, q2, q3, q4⟩
      have HE2 := hide q1
      have HKO2 := hide (HKO.out.1.after HKR.out.len HKO.out.2.1 HKO.out.2.2 HK3N.out HX.out q2 q1.here)
      have hk2 : Kept (Mut g b sv) wr w2 := ⟨q3.os, q3.tape, q3.output, q3.size, q3.block⟩
      have HK2 := hide hk2
      have HV2 := hide q4
      have HS2 := hide (HSALL.out w2 (hk2.block NB (blk_lt HNM.out.2) HNM.out.1) (hk2.block KB HKR.out.row.lt HKR.out.free))
      clear q1 q2 q3 q4 hk2
      go_wp2_with fail
      refine hK.out _ _ HS2.out (fun hHeld2 => ?_)
      clear hK K hHeld
      have hHeld := hHeld2
      clear hHeld2
      try simp only [Act.put, List.setIfInBounds_toArray, List.set_cons_zero, List.set_cons_succ]
      refine wpAnyH_ready (rs := [6]) (by kernel_rfl) (by simp) (AllReadyH.cons rfl (fun K hK => ?_) AllReadyH.nil)
      go_simp
      refine hK.out _ _ HS2.out (fun hHeld2 => ?_)
      clear hK K hHeld
      have hHeld := hHeld2
      clear hHeld2
      try simp only [Act.put, List.setIfInBounds_toArray, List.set_cons_zero, List.set_cons_succ]
      refine wpAnyH_ready (rs := [7]) (by kernel_rfl) (by simp) (AllReadyH.cons rfl (fun K hK => ?_) AllReadyH.nil)
      go_simp
      refine hK.out _ _ HS2.out (fun hHeld2 => ?_)
      clear hK K hHeld
      have hHeld := hHeld2
      clear hHeld2
      try simp only [Act.put, List.setIfInBounds_toArray, List.set_cons_zero, List.set_cons_succ]
      refine wpAnyH_take (i := 8) (v := ?_) rfl (by kernel_rfl) (by kernel_rfl) (by kernel_rfl) (fun _ _ _ h => h) (Or.inl ⟨by rfl, ?_⟩) (by assumption) ?_
      rotate_left
      · intro wq hSw
        try dsimp only at hSw
        go_simp
        try with_reducible rfl
      simp only [Act.put, List.setIfInBounds_toArray, List.set_cons_zero, List.set_cons_succ]
      refine wpAnyH_take (i := 10) (v := ?_) rfl (by kernel_rfl) (by kernel_rfl) (by kernel_rfl) (fun _ _ _ h => h) (Or.inl ⟨by rfl, ?_⟩) (by assumption) ?_
      rotate_left
      · intro wq hSw
        try dsimp only at hSw
        go_simp
        try with_reducible rfl
      simp only [Act.put, List.setIfInBounds_toArray, List.set_cons_zero, List.set_cons_succ]
      refine wpAnyH_take (i := 11) (v := ?_) rfl (by kernel_rfl) (by kernel_rfl) (by kernel_rfl) (fun _ _ _ h => h) (Or.inl ⟨by rfl, ?_⟩) (by assumption) ?_
      rotate_left
      · intro wq hSw
        try dsimp only at hSw
        go_simp
        try with_reducible rfl
      simp only [Act.put, List.setIfInBounds_toArray, List.set_cons_zero, List.set_cons_succ]
      refine wpAnyH_take (i := 12) (v := ?_) rfl (by kernel_rfl) (by kernel_rfl) (by kernel_rfl) (fun _ _ _ h => h) (Or.inl ⟨by rfl, ?_⟩) (by assumption) ?_
      rotate_left
      · intro wq hSw
        try dsimp only at hSw
        go_simp
        try with_reducible rfl
      simp only [Act.put, List.setIfInBounds_toArray, List.set_cons_zero, List.set_cons_succ]
      refine wpAnyH_take (i := 13) (v := .agg csk.toArray) rfl (by kernel_rfl) (by kernel_rfl) (by kernel_rfl) (fun _ _ _ h => h) (yieldsIf_load_mid (by rfl) 29 _ rfl KB (k * 40) (by go_simp) csk _ (fun w' h => h.2) Try.underlying29 rfl (by rw [size_env, HLK.out])) (by assumption) ?_
      simp only [Act.put, List.setIfInBounds_toArray, List.set_cons_zero, List.set_cons_succ]
      refine wpAnyH_ready (rs := [9]) (by kernel_rfl) (by simp) (AllReadyH.cons rfl (fun K hK => ?_) AllReadyH.nil)
      go_simp
      refine (Now_any HE2.out HKO2.out.1).mono ?_
      rintro e w3 ⟨cs3, rfl, q1, q2⟩
      have HS3 := hide (HSALL.out w3 ((q2.block NB (Nat.lt_of_lt_of_le (blk_lt HNM.out.2) HK2.out.size)).trans (HK2.out.block NB (blk_lt HNM.out.2) HNM.out.1)) ((q2.block KB (Nat.lt_of_lt_of_le HKR.out.row.lt HK2.out.size)).trans (HK2.out.block KB HKR.out.row.lt HKR.out.free)))
      have HK3 := hide q1
      have HW3 := hide q2
      clear q1 q2
      go_wp2_with fail
      refine hK.out _ _ HS3.out (fun hHeld2 => ?_)
      clear hK K hHeld
      have hHeld := hHeld2
      clear hHeld2
      try simp only [Act.put, List.setIfInBounds_toArray, List.set_cons_zero, List.set_cons_succ]
      refine wpAnyH_ready (rs := [14]) (by kernel_rfl) (by simp) (AllReadyH.cons rfl (fun K hK => ?_) AllReadyH.nil)
      go_simp
      refine (Same_any x x cs3 csk _ _ _ HK3.out (Kind.below (Kind.step HKK.out (fun k hk1 hk2 => HK2.out.block k hk2 hk1.1)) HW3.out) (HE2.out.small _ _ HKO2.out.1) (HE2.out.small _ _ HKO2.out.1)).mono ?_
      rw [sameE_self]
      rintro e w4 ⟨rfl, q2⟩
      have hb4 : Below w2.heap.size w2 w4 := HW3.out.trans (q2.mono HW3.out.size)
      have HS4 := hide (HSALL.out w4 ((hb4.block NB (Nat.lt_of_lt_of_le (blk_lt HNM.out.2) HK2.out.size)).trans (HK2.out.block NB (blk_lt HNM.out.2) HNM.out.1)) ((hb4.block KB (Nat.lt_of_lt_of_le HKR.out.row.lt HK2.out.size)).trans (HK2.out.block KB HKR.out.row.lt HKR.out.free)))
      have HW4 := hide hb4
      clear q2 hb4
      go_wp2_with fail
      refine hK.out _ _ HS4.out (fun hHeld2 => ?_)
      clear hK K hHeld
      have hHeld := hHeld2
      clear hHeld2
      try simp only [Act.put, List.setIfInBounds_toArray, List.set_cons_zero, List.set_cons_succ]
      refine wpAnyH_ready (rs := [15]) (by kernel_rfl) (by simp) (AllReadyH.cons rfl (fun K hK => ?_) AllReadyH.nil)
      go_simp
      refine hK.out _ _ HS4.out (fun hHeld2 => ?_)
      clear hK K hHeld
      have hHeld := hHeld2
      clear hHeld2
      try simp only [Act.put, List.setIfInBounds_toArray, List.set_cons_zero, List.set_cons_succ]
      refine wpAnyH_ready (rs := [16]) (by kernel_rfl) (by simp) (AllReadyH.cons rfl (fun K hK => ?_) AllReadyH.nil)
      go_simp
      refine hK.out _ _ HS4.out (fun hHeld2 => ?_)
      clear hK K hHeld
      have hHeld := hHeld2
      clear hHeld2
      try simp only [Act.put, List.setIfInBounds_toArray, List.set_cons_zero, List.set_cons_succ]
      clear hHeld
      refine wpAnyH_done (by kernel_rfl) ?_ _
      have HE4 := hide (HE2.out.below HW4.out)
      have HKR4 := hide ((HKR.out.kept HK2.out HV2.out).keep (Kept.of_below HW4.out))
      have HNM4 := hide ((HNM.out.kept HK2.out HV2.out).kept (Kept.of_below HW4.out) (fun _ h => .inl h))
      have hb24 := HBE.out.trans (HK2.out.below (B := w.heap.size) HBE.out.size HM.out)
      have HB4 := hide (hb24.trans (HW4.out.mono hb24.size))
      have HM4 := hide (show ∀ k, Mut g b sv2 k → w.heap.size ≤ k from fun k hk => by
        rcases hk with hk | hk | hk
        · exact HM.out k (.inl hk)
        · exact HM.out k (.inr (.inl hk))
        · rcases HV2.out k hk with h | h
          · exact HM.out k (.inr (.inr h))
          · exact Nat.le_trans HBE.out.size h)
      have HSX := hide (HE4.out.small _ _ HKO2.out.1)
      clear hb24 HSALL HS2 HS3 HS4 HK3 HW3 HK2 HV2 HE2 HW4 HKK HLK HE HKR HNM HM HBE HKO
      go_upto_region 12 with fail
      obtain ⟨y, hys, hch⟩ := changed_any n3 HN3.out x HSX.out
      have HYS := hide hys
      have HCH := hide hch
      have p0 := cell_stays HB4.out HP0W.out
      have HSA := hide (show ∀ Y : World, Below w4.heap.size w4 Y → (fun w' : World => w'.cell? ⟨b2, o2 + i, none⟩ = some (.int .i64 z)) Y from fun Y h => cell_stays h p0)
      have HB2N := hide (show b2 < w4.heap.size from Nat.lt_of_lt_of_le HB2W.out HB4.out.size)
      clear hys hch p0
      apply key_four (T := ChgAt w4 y)
      case hw =>
        intro key
        have HKEY := hide key
        clear key
        have hn3 := HTD.out
        have hw3 : IntKind.i64.wrap n3 = n3 := by have := HN3.out; unfold inI at this; rw [IntKind.wrap_i64]; omega
        refine wp_region_held_drew (S := (fun w' => w'.cell? ⟨b2, o2 + i, none⟩ = some (.int .i64 z))) (by kernel_rfl) (HSA.out _ (Below.refl w4.heap.size w4).drew) (fun hHeld => ?_)
        refine wpAnyH_take (i := 0) (v := ?_) rfl (by kernel_rfl) (by kernel_rfl) (by kernel_rfl) (fun _ _ _ h => h) (Or.inl ⟨by rfl, ?_⟩) (by assumption) ?_
        rotate_left
        · intro wq hSw
          try dsimp only at hSw
          go_simp
          try with_reducible rfl
        simp only [Act.put, List.setIfInBounds_toArray, List.set_cons_zero, List.set_cons_succ]
        refine wpAnyH_take (i := 2) (v := ?_) rfl (by kernel_rfl) (by kernel_rfl) (by kernel_rfl) (fun _ _ _ h => h) (Or.inl ⟨by rfl, ?_⟩) (by assumption) ?_
        rotate_left
        · intro wq hSw
          try dsimp only at hSw
          go_simp
          try with_reducible rfl
        simp only [Act.put, List.setIfInBounds_toArray, List.set_cons_zero, List.set_cons_succ]
        refine wpAnyH_take (i := 3) (v := ?_) rfl (by kernel_rfl) (by kernel_rfl) (by kernel_rfl) (fun _ _ _ h => h) (Or.inl ⟨by rfl, ?_⟩) (by assumption) ?_
        rotate_left
        · intro wq hSw
          try dsimp only at hSw
          go_simp
          try with_reducible rfl
        simp only [Act.put, List.setIfInBounds_toArray, List.set_cons_zero, List.set_cons_succ]
        refine wpAnyH_take (i := 4) (v := ?_) rfl (by kernel_rfl) (by kernel_rfl) (by kernel_rfl) (fun _ _ _ h => h) (Or.inl ⟨by rfl, ?_⟩) (by assumption) ?_
        rotate_left
        · intro wq hSw
          try dsimp only at hSw
          go_simp
          try with_reducible rfl
        simp only [Act.put, List.setIfInBounds_toArray, List.set_cons_zero, List.set_cons_succ]
        refine wpAnyH_take (i := 5) (v := ?_) rfl (by kernel_rfl) (by kernel_rfl) (by kernel_rfl) (fun _ _ _ h => h) (Or.inl ⟨by rfl, ?_⟩) (by assumption) ?_
        rotate_left
        · intro wq hSw
          try dsimp only at hSw
          go_simp
          try with_reducible rfl
        simp only [Act.put, List.setIfInBounds_toArray, List.set_cons_zero, List.set_cons_succ]
        refine wpAnyH_take (i := 6) (v := ?_) rfl (by kernel_rfl) (by kernel_rfl) (by kernel_rfl) (fun _ _ _ h => h) (Or.inl ⟨by rfl, ?_⟩) (by assumption) ?_
        rotate_left
        · intro wq hSw
          try dsimp only at hSw
          go_simp
          try with_reducible rfl
        simp only [Act.put, List.setIfInBounds_toArray, List.set_cons_zero, List.set_cons_succ]
        have HC := hide ((Below.refl w4.heap.size w4).drew)
        clear hn3 hw3
        refine wpAnyH_ready (rs := [1, 8]) (by kernel_rfl) (by simp) (AllReadyH.cons rfl (fun K hK => ?_) (AllReadyH.cons rfl (fun K hK => ?_) AllReadyH.nil))
        · go_simp
          refine (Now_any (HE4.out.below HC.out) HKO2.out.1).mono ?_
          rintro e wN ⟨cs2, rfl, q1, q2⟩
          have HKN := hide (envK.bound q1)
          have HXN := hide q2
          have HC := hide (HC.out.trans (q2.mono HC.out.size))
          clear q1 q2
          go_wp2_with fail
          refine hK.out _ _ (HSA.out _ HC.out) (fun hHeld2 => ?_)
          clear hK K hHeld
          have hHeld := hHeld2
          clear hHeld2
          try simp only [Act.put, List.setIfInBounds_toArray, List.set_cons_zero, List.set_cons_succ]
          refine wpAnyH_ready (rs := [7, 8]) (by kernel_rfl) (by simp) (AllReadyH.cons rfl (fun K hK => ?_) (AllReadyH.cons rfl (fun K hK => ?_) AllReadyH.nil))
          · go_simp
            refine (HCH.out _ _ cs2 HKN.out).mono ?_
            rintro e wC ⟨cs3, rfl, q1, q2⟩
            have HKC := hide (envK.bound q1)
            have HXC := hide q2
            have HC := hide (HC.out.trans (q2.mono HC.out.size))
            clear q1 q2
            go_wp2_with fail
            refine hK.out _ _ (HSA.out _ HC.out) (fun hHeld2 => ?_)
            clear hK K hHeld
            have hHeld := hHeld2
            clear hHeld2
            try simp only [Act.put, List.setIfInBounds_toArray, List.set_cons_zero, List.set_cons_succ]
            refine wpAnyH_ready (rs := [8]) (by kernel_rfl) (by simp) (AllReadyH.cons rfl (fun K hK => ?_) AllReadyH.nil)
            go_simp
            have hz1 : ((World.alloc wC (.cells #[.int .i64 0, .int .i64 0, .int .i64 0, .int .i64 0, .int .i64 0, .int .i64 0, .int .i64 0, .int .i64 0, .int .i64 0, .int .i64 0, .bool false, .bool false, .bool false, .bool false, .bool false, .int .u8 0, .int .i64 0, .int .i64 0, .int .i64 0, .int .i64 0, .int .i64 0, .slice none 0 0, .int .i64 0, .string ⟨#[]⟩, .string ⟨#[]⟩, .string ⟨#[]⟩, .string ⟨#[]⟩, .string ⟨#[]⟩, .int .i64 0, .bool false, .int .i64 0, .int .i64 0, .int .i64 0, .int .i64 0, .int .i64 0, .slice none 0 0, .int .i64 0, .int .i64 0, .bool false, .bool false] 29))).heap[wC.heap.size]? = some (.cells #[.int .i64 0, .int .i64 0, .int .i64 0, .int .i64 0, .int .i64 0, .int .i64 0, .int .i64 0, .int .i64 0, .int .i64 0, .int .i64 0, .bool false, .bool false, .bool false, .bool false, .bool false, .int .u8 0, .int .i64 0, .int .i64 0, .int .i64 0, .int .i64 0, .int .i64 0, .slice none 0 0, .int .i64 0, .string ⟨#[]⟩, .string ⟨#[]⟩, .string ⟨#[]⟩, .string ⟨#[]⟩, .string ⟨#[]⟩, .int .i64 0, .bool false, .int .i64 0, .int .i64 0, .int .i64 0, .int .i64 0, .int .i64 0, .slice none 0 0, .int .i64 0, .int .i64 0, .bool false, .bool false] 29 (0, 0)) := blk_new wC _
            have hbz : Below wC.heap.size wC ((World.alloc wC (.cells #[.int .i64 0, .int .i64 0, .int .i64 0, .int .i64 0, .int .i64 0, .int .i64 0, .int .i64 0, .int .i64 0, .int .i64 0, .int .i64 0, .bool false, .bool false, .bool false, .bool false, .bool false, .int .u8 0, .int .i64 0, .int .i64 0, .int .i64 0, .int .i64 0, .int .i64 0, .slice none 0 0, .int .i64 0, .string ⟨#[]⟩, .string ⟨#[]⟩, .string ⟨#[]⟩, .string ⟨#[]⟩, .string ⟨#[]⟩, .int .i64 0, .bool false, .int .i64 0, .int .i64 0, .int .i64 0, .int .i64 0, .int .i64 0, .slice none 0 0, .int .i64 0, .int .i64 0, .bool false, .bool false] 29))) := (Below.refl _ _).alloc (Nat.le_refl _) _
            have hsz : ((World.alloc wC (.cells #[.int .i64 0, .int .i64 0, .int .i64 0, .int .i64 0, .int .i64 0, .int .i64 0, .int .i64 0, .int .i64 0, .int .i64 0, .int .i64 0, .bool false, .bool false, .bool false, .bool false, .bool false, .int .u8 0, .int .i64 0, .int .i64 0, .int .i64 0, .int .i64 0, .int .i64 0, .slice none 0 0, .int .i64 0, .string ⟨#[]⟩, .string ⟨#[]⟩, .string ⟨#[]⟩, .string ⟨#[]⟩, .string ⟨#[]⟩, .int .i64 0, .bool false, .int .i64 0, .int .i64 0, .int .i64 0, .int .i64 0, .int .i64 0, .slice none 0 0, .int .i64 0, .int .i64 0, .bool false, .bool false] 29))).heap.size = wC.heap.size + 1 := by simp
            generalize ((World.alloc wC (.cells #[.int .i64 0, .int .i64 0, .int .i64 0, .int .i64 0, .int .i64 0, .int .i64 0, .int .i64 0, .int .i64 0, .int .i64 0, .int .i64 0, .bool false, .bool false, .bool false, .bool false, .bool false, .int .u8 0, .int .i64 0, .int .i64 0, .int .i64 0, .int .i64 0, .int .i64 0, .slice none 0 0, .int .i64 0, .string ⟨#[]⟩, .string ⟨#[]⟩, .string ⟨#[]⟩, .string ⟨#[]⟩, .string ⟨#[]⟩, .int .i64 0, .bool false, .int .i64 0, .int .i64 0, .int .i64 0, .int .i64 0, .int .i64 0, .slice none 0 0, .int .i64 0, .int .i64 0, .bool false, .bool false] 29))) = wA at hz1 hbz hsz ⊢
            obtain ⟨V, hV⟩ : ∃ V, V = wC.heap.size := ⟨_, rfl⟩
            rw [← hV] at hz1 ⊢
            have HVE := hide hV
            have HVB := hide hz1
            have HVS := hide hsz
            have HXA := hide hbz
            have HC := hide (HC.out.trans (hbz.mono HC.out.size))
            clear hV hz1 hbz hsz
            refine hK.out _ _ (HSA.out _ HC.out) (fun hHeld2 => ?_)
            clear hK K hHeld
            have hHeld := hHeld2
            clear hHeld2
            try simp only [Act.put, List.setIfInBounds_toArray, List.set_cons_zero, List.set_cons_succ]
            have hVG : w4.heap.size ≤ V := by have := HVE.out; have := HXN.out.size; have := HXC.out.size; have h9 : w4.drew.heap.size = w4.heap.size := rfl; omega
            have hcl3 : cs3.length = 40 := envK.len HKC.out
            have hst := store_row (P := Try.prog) wA V 29 _ cs3 HVB.out (by rw [show cs3.length = 40 from envK.len HKC.out]; rfl) (envK.one HKC.out)
            refine wpAnyH_ready (rs := [9]) (by kernel_rfl) (by simp) (AllReadyH.cons rfl (fun K hK => ?_) AllReadyH.nil)
            go_simp
            have hVw : w4.heap.size ≤ V := hVG
            clear hst hcl3
            refine hK.out _ _ ((cell_same (setRow_other wA V b2 _ (by have := HB2N.out; omega)) _).trans (HSA.out _ HC.out)) (fun hHeld2 => ?_)
            clear hK K hHeld
            have hHeld := hHeld2
            clear hHeld2
            try simp only [Act.put, List.setIfInBounds_toArray, List.set_cons_zero, List.set_cons_succ]
            clear hHeld
            refine wpAnyH_done (by kernel_rfl) ?_ _
            have hchg : ChgAt w4 y V cs2 cs3 (wA.setRow V cs3.toArray) := ⟨setRow_heap _ _ _ _ _ _ HVB.out, Kind.step (envK.weaken (ok' := fun k => (w4.heap.size ≤ k ∧ k ≠ V) ∧ k < wC.heap.size) (fun k hk => by have h9 : w4.drew.heap.size = w4.heap.size := rfl; have := HVE.out; have := HXN.out.size; have := hk.2; rcases hk.1 with h | h <;> omega) HKC.out) (fun k hk _ => (setRow_other wA V k _ hk.1.2).trans (HXA.out.block k hk.2)) |> envK.weaken (fun k hk => hk.1), below_setRow HC.out hVw _, hVw⟩
            generalize (wA.setRow V cs3.toArray) = w9 at hchg ⊢
            exact HKEY.out V cs2 cs3 w9 hchg
          · go_simp
            have hz1 : ((World.alloc wN (.cells #[.int .i64 0, .int .i64 0, .int .i64 0, .int .i64 0, .int .i64 0, .int .i64 0, .int .i64 0, .int .i64 0, .int .i64 0, .int .i64 0, .bool false, .bool false, .bool false, .bool false, .bool false, .int .u8 0, .int .i64 0, .int .i64 0, .int .i64 0, .int .i64 0, .int .i64 0, .slice none 0 0, .int .i64 0, .string ⟨#[]⟩, .string ⟨#[]⟩, .string ⟨#[]⟩, .string ⟨#[]⟩, .string ⟨#[]⟩, .int .i64 0, .bool false, .int .i64 0, .int .i64 0, .int .i64 0, .int .i64 0, .int .i64 0, .slice none 0 0, .int .i64 0, .int .i64 0, .bool false, .bool false] 29))).heap[wN.heap.size]? = some (.cells #[.int .i64 0, .int .i64 0, .int .i64 0, .int .i64 0, .int .i64 0, .int .i64 0, .int .i64 0, .int .i64 0, .int .i64 0, .int .i64 0, .bool false, .bool false, .bool false, .bool false, .bool false, .int .u8 0, .int .i64 0, .int .i64 0, .int .i64 0, .int .i64 0, .int .i64 0, .slice none 0 0, .int .i64 0, .string ⟨#[]⟩, .string ⟨#[]⟩, .string ⟨#[]⟩, .string ⟨#[]⟩, .string ⟨#[]⟩, .int .i64 0, .bool false, .int .i64 0, .int .i64 0, .int .i64 0, .int .i64 0, .int .i64 0, .slice none 0 0, .int .i64 0, .int .i64 0, .bool false, .bool false] 29 (0, 0)) := blk_new wN _
            have hbz : Below wN.heap.size wN ((World.alloc wN (.cells #[.int .i64 0, .int .i64 0, .int .i64 0, .int .i64 0, .int .i64 0, .int .i64 0, .int .i64 0, .int .i64 0, .int .i64 0, .int .i64 0, .bool false, .bool false, .bool false, .bool false, .bool false, .int .u8 0, .int .i64 0, .int .i64 0, .int .i64 0, .int .i64 0, .int .i64 0, .slice none 0 0, .int .i64 0, .string ⟨#[]⟩, .string ⟨#[]⟩, .string ⟨#[]⟩, .string ⟨#[]⟩, .string ⟨#[]⟩, .int .i64 0, .bool false, .int .i64 0, .int .i64 0, .int .i64 0, .int .i64 0, .int .i64 0, .slice none 0 0, .int .i64 0, .int .i64 0, .bool false, .bool false] 29))) := (Below.refl _ _).alloc (Nat.le_refl _) _
            have hsz : ((World.alloc wN (.cells #[.int .i64 0, .int .i64 0, .int .i64 0, .int .i64 0, .int .i64 0, .int .i64 0, .int .i64 0, .int .i64 0, .int .i64 0, .int .i64 0, .bool false, .bool false, .bool false, .bool false, .bool false, .int .u8 0, .int .i64 0, .int .i64 0, .int .i64 0, .int .i64 0, .int .i64 0, .slice none 0 0, .int .i64 0, .string ⟨#[]⟩, .string ⟨#[]⟩, .string ⟨#[]⟩, .string ⟨#[]⟩, .string ⟨#[]⟩, .int .i64 0, .bool false, .int .i64 0, .int .i64 0, .int .i64 0, .int .i64 0, .int .i64 0, .slice none 0 0, .int .i64 0, .int .i64 0, .bool false, .bool false] 29))).heap.size = wN.heap.size + 1 := by simp
            generalize ((World.alloc wN (.cells #[.int .i64 0, .int .i64 0, .int .i64 0, .int .i64 0, .int .i64 0, .int .i64 0, .int .i64 0, .int .i64 0, .int .i64 0, .int .i64 0, .bool false, .bool false, .bool false, .bool false, .bool false, .int .u8 0, .int .i64 0, .int .i64 0, .int .i64 0, .int .i64 0, .int .i64 0, .slice none 0 0, .int .i64 0, .string ⟨#[]⟩, .string ⟨#[]⟩, .string ⟨#[]⟩, .string ⟨#[]⟩, .string ⟨#[]⟩, .int .i64 0, .bool false, .int .i64 0, .int .i64 0, .int .i64 0, .int .i64 0, .int .i64 0, .slice none 0 0, .int .i64 0, .int .i64 0, .bool false, .bool false] 29))) = wA at hz1 hbz hsz ⊢
            obtain ⟨V, hV⟩ : ∃ V, V = wN.heap.size := ⟨_, rfl⟩
            rw [← hV] at hz1 ⊢
            have HVE := hide hV
            have HVB := hide hz1
            have HVS := hide hsz
            have HXA := hide hbz
            have HC := hide (HC.out.trans (hbz.mono HC.out.size))
            clear hV hz1 hbz hsz
            refine hK.out _ _ (HSA.out _ HC.out) (fun hHeld2 => ?_)
            clear hK K hHeld
            have hHeld := hHeld2
            clear hHeld2
            try simp only [Act.put, List.setIfInBounds_toArray, List.set_cons_zero, List.set_cons_succ]
            refine wpAnyH_ready (rs := [7]) (by kernel_rfl) (by simp) (AllReadyH.cons rfl (fun K hK => ?_) AllReadyH.nil)
            go_simp
            refine (HCH.out _ _ cs2 (Kind.below HKN.out HXA.out)).mono ?_
            rintro e wC ⟨cs3, rfl, q1, q2⟩
            have HKC := hide (envK.bound q1)
            have HXC := hide q2
            have HVB := hide (blk_below HVB.out q2 (blk_lt HVB.out))
            have HC := hide (HC.out.trans (q2.mono HC.out.size))
            clear q1 q2
            go_wp2_with fail
            refine hK.out _ _ (HSA.out _ HC.out) (fun hHeld2 => ?_)
            clear hK K hHeld
            have hHeld := hHeld2
            clear hHeld2
            try simp only [Act.put, List.setIfInBounds_toArray, List.set_cons_zero, List.set_cons_succ]
            have hVG : w4.heap.size ≤ V := by have := HVE.out; have := HXN.out.size; have h9 : w4.drew.heap.size = w4.heap.size := rfl; omega
            have hcl3 : cs3.length = 40 := envK.len HKC.out
            have hst := store_row (P := Try.prog) wC V 29 _ cs3 HVB.out (by rw [show cs3.length = 40 from envK.len HKC.out]; rfl) (envK.one HKC.out)
            refine wpAnyH_ready (rs := [9]) (by kernel_rfl) (by simp) (AllReadyH.cons rfl (fun K hK => ?_) AllReadyH.nil)
            go_simp
            have hVw : w4.heap.size ≤ V := hVG
            clear hst hcl3
            refine hK.out _ _ ((cell_same (setRow_other wC V b2 _ (by have := HB2N.out; omega)) _).trans (HSA.out _ HC.out)) (fun hHeld2 => ?_)
            clear hK K hHeld
            have hHeld := hHeld2
            clear hHeld2
            try simp only [Act.put, List.setIfInBounds_toArray, List.set_cons_zero, List.set_cons_succ]
            clear hHeld
            refine wpAnyH_done (by kernel_rfl) ?_ _
            have hchg : ChgAt w4 y V cs2 cs3 (wC.setRow V cs3.toArray) := ⟨setRow_heap _ _ _ _ _ _ HVB.out, Kind.step (envK.weaken (ok' := fun k => w4.heap.size ≤ k ∧ k ≠ V) (fun k hk => by have h9 : w4.drew.heap.size = w4.heap.size := rfl; have := HVE.out; have := HVS.out; have := HXN.out.size; rcases hk.1 with h | h <;> omega) HKC.out) (fun k hk _ => setRow_other wC V k _ hk.2), below_setRow HC.out hVw _, hVw⟩
            generalize (wC.setRow V cs3.toArray) = w9 at hchg ⊢
            exact HKEY.out V cs2 cs3 w9 hchg
        · go_simp
          have hz1 : ((World.alloc w4 (.cells #[.int .i64 0, .int .i64 0, .int .i64 0, .int .i64 0, .int .i64 0, .int .i64 0, .int .i64 0, .int .i64 0, .int .i64 0, .int .i64 0, .bool false, .bool false, .bool false, .bool false, .bool false, .int .u8 0, .int .i64 0, .int .i64 0, .int .i64 0, .int .i64 0, .int .i64 0, .slice none 0 0, .int .i64 0, .string ⟨#[]⟩, .string ⟨#[]⟩, .string ⟨#[]⟩, .string ⟨#[]⟩, .string ⟨#[]⟩, .int .i64 0, .bool false, .int .i64 0, .int .i64 0, .int .i64 0, .int .i64 0, .int .i64 0, .slice none 0 0, .int .i64 0, .int .i64 0, .bool false, .bool false] 29)).drew).heap[w4.heap.size]? = some (.cells #[.int .i64 0, .int .i64 0, .int .i64 0, .int .i64 0, .int .i64 0, .int .i64 0, .int .i64 0, .int .i64 0, .int .i64 0, .int .i64 0, .bool false, .bool false, .bool false, .bool false, .bool false, .int .u8 0, .int .i64 0, .int .i64 0, .int .i64 0, .int .i64 0, .int .i64 0, .slice none 0 0, .int .i64 0, .string ⟨#[]⟩, .string ⟨#[]⟩, .string ⟨#[]⟩, .string ⟨#[]⟩, .string ⟨#[]⟩, .int .i64 0, .bool false, .int .i64 0, .int .i64 0, .int .i64 0, .int .i64 0, .int .i64 0, .slice none 0 0, .int .i64 0, .int .i64 0, .bool false, .bool false] 29 (0, 0)) := blk_new w4 _
          have hbz : Below w4.heap.size w4 ((World.alloc w4 (.cells #[.int .i64 0, .int .i64 0, .int .i64 0, .int .i64 0, .int .i64 0, .int .i64 0, .int .i64 0, .int .i64 0, .int .i64 0, .int .i64 0, .bool false, .bool false, .bool false, .bool false, .bool false, .int .u8 0, .int .i64 0, .int .i64 0, .int .i64 0, .int .i64 0, .int .i64 0, .slice none 0 0, .int .i64 0, .string ⟨#[]⟩, .string ⟨#[]⟩, .string ⟨#[]⟩, .string ⟨#[]⟩, .string ⟨#[]⟩, .int .i64 0, .bool false, .int .i64 0, .int .i64 0, .int .i64 0, .int .i64 0, .int .i64 0, .slice none 0 0, .int .i64 0, .int .i64 0, .bool false, .bool false] 29)).drew) := ((Below.refl _ _).alloc (Nat.le_refl _) _).drew
          have hsz : ((World.alloc w4 (.cells #[.int .i64 0, .int .i64 0, .int .i64 0, .int .i64 0, .int .i64 0, .int .i64 0, .int .i64 0, .int .i64 0, .int .i64 0, .int .i64 0, .bool false, .bool false, .bool false, .bool false, .bool false, .int .u8 0, .int .i64 0, .int .i64 0, .int .i64 0, .int .i64 0, .int .i64 0, .slice none 0 0, .int .i64 0, .string ⟨#[]⟩, .string ⟨#[]⟩, .string ⟨#[]⟩, .string ⟨#[]⟩, .string ⟨#[]⟩, .int .i64 0, .bool false, .int .i64 0, .int .i64 0, .int .i64 0, .int .i64 0, .int .i64 0, .slice none 0 0, .int .i64 0, .int .i64 0, .bool false, .bool false] 29)).drew).heap.size = w4.heap.size + 1 := by simp
          generalize ((World.alloc w4 (.cells #[.int .i64 0, .int .i64 0, .int .i64 0, .int .i64 0, .int .i64 0, .int .i64 0, .int .i64 0, .int .i64 0, .int .i64 0, .int .i64 0, .bool false, .bool false, .bool false, .bool false, .bool false, .int .u8 0, .int .i64 0, .int .i64 0, .int .i64 0, .int .i64 0, .int .i64 0, .slice none 0 0, .int .i64 0, .string ⟨#[]⟩, .string ⟨#[]⟩, .string ⟨#[]⟩, .string ⟨#[]⟩, .string ⟨#[]⟩, .int .i64 0, .bool false, .int .i64 0, .int .i64 0, .int .i64 0, .int .i64 0, .int .i64 0, .slice none 0 0, .int .i64 0, .int .i64 0, .bool false, .bool false] 29)).drew) = wA at hz1 hbz hsz ⊢
          obtain ⟨V, hV⟩ : ∃ V, V = w4.heap.size := ⟨_, rfl⟩
          rw [← hV] at hz1 ⊢
          have HVE := hide hV
          have HVB := hide hz1
          have HVS := hide hsz
          have HXA := hide hbz
          have HC := hide (hbz)
          clear hV hz1 hbz hsz
          refine hK.out _ _ (HSA.out _ HC.out) (fun hHeld2 => ?_)
          clear hK K hHeld
          have hHeld := hHeld2
          clear hHeld2
          try simp only [Act.put, List.setIfInBounds_toArray, List.set_cons_zero, List.set_cons_succ]
          refine wpAnyH_ready (rs := [1]) (by kernel_rfl) (by simp) (AllReadyH.cons rfl (fun K hK => ?_) AllReadyH.nil)
          go_simp
          refine (Now_any (HE4.out.below HC.out) HKO2.out.1).mono ?_
          rintro e wN ⟨cs2, rfl, q1, q2⟩
          have HKN := hide (envK.bound q1)
          have HXN := hide q2
          have HVB := hide (blk_below HVB.out q2 (blk_lt HVB.out))
          have HC := hide (HC.out.trans (q2.mono HC.out.size))
          clear q1 q2
          go_wp2_with fail
          refine hK.out _ _ (HSA.out _ HC.out) (fun hHeld2 => ?_)
          clear hK K hHeld
          have hHeld := hHeld2
          clear hHeld2
          try simp only [Act.put, List.setIfInBounds_toArray, List.set_cons_zero, List.set_cons_succ]
          refine wpAnyH_ready (rs := [7]) (by kernel_rfl) (by simp) (AllReadyH.cons rfl (fun K hK => ?_) AllReadyH.nil)
          go_simp
          refine (HCH.out _ _ cs2 HKN.out).mono ?_
          rintro e wC ⟨cs3, rfl, q1, q2⟩
          have HKC := hide (envK.bound q1)
          have HXC := hide q2
          have HVB := hide (blk_below HVB.out q2 (blk_lt HVB.out))
          have HC := hide (HC.out.trans (q2.mono HC.out.size))
          clear q1 q2
          go_wp2_with fail
          refine hK.out _ _ (HSA.out _ HC.out) (fun hHeld2 => ?_)
          clear hK K hHeld
          have hHeld := hHeld2
          clear hHeld2
          try simp only [Act.put, List.setIfInBounds_toArray, List.set_cons_zero, List.set_cons_succ]
          have hVG : w4.heap.size ≤ V := by have := HVE.out; have h9 : w4.drew.heap.size = w4.heap.size := rfl; omega
          have hcl3 : cs3.length = 40 := envK.len HKC.out
          have hst := store_row (P := Try.prog) wC V 29 _ cs3 HVB.out (by rw [show cs3.length = 40 from envK.len HKC.out]; rfl) (envK.one HKC.out)
          refine wpAnyH_ready (rs := [9]) (by kernel_rfl) (by simp) (AllReadyH.cons rfl (fun K hK => ?_) AllReadyH.nil)
          go_simp
          have hVw : w4.heap.size ≤ V := hVG
          clear hst hcl3
          refine hK.out _ _ ((cell_same (setRow_other wC V b2 _ (by have := HB2N.out; omega)) _).trans (HSA.out _ HC.out)) (fun hHeld2 => ?_)
          clear hK K hHeld
          have hHeld := hHeld2
          clear hHeld2
          try simp only [Act.put, List.setIfInBounds_toArray, List.set_cons_zero, List.set_cons_succ]
          clear hHeld
          refine wpAnyH_done (by kernel_rfl) ?_ _
          have hchg : ChgAt w4 y V cs2 cs3 (wC.setRow V cs3.toArray) := ⟨setRow_heap _ _ _ _ _ _ HVB.out, Kind.step (envK.weaken (ok' := fun k => w4.heap.size ≤ k ∧ k ≠ V) (fun k hk => by have h9 : w4.drew.heap.size = w4.heap.size := rfl; have := HVE.out; have := HVS.out; have := HXN.out.size; rcases hk.1 with h | h <;> omega) HKC.out) (fun k hk _ => setRow_other wC V k _ hk.2), below_setRow HC.out hVw _, hVw⟩
          generalize (wC.setRow V cs3.toArray) = w9 at hchg ⊢
          exact HKEY.out V cs2 cs3 w9 hchg
      case hk =>
        intro V8 cs2 cs3 w9 hT
        obtain ⟨hv1, hv2, hv3, hv4⟩ := hT
        have HV1 := hide hv1
        have HV2 := hide hv2
        have HV3 := hide hv3
        have HV4 := hide hv4
        clear hv1 hv2 hv3 hv4
        have HE9 := hide (HE4.out.below HV3.out)
        have HKR9 := hide (HKR4.out.keep (Kept.of_below HV3.out))
        have HNM9 := hide (HNM4.out.kept (Kept.of_below HV3.out) (fun _ h => .inl h))
        have HB9 := hide (HB4.out.trans (HV3.out.mono HB4.out.size))
        have hcl : cs3.toArray.size = 40 := by have : cs3.length = 40 := envK.len HV2.out; simpa using this
        have HCL := hide hcl
        have HOC := hide (all_oneCell_toArray (envK.one HV2.out))
        have HKB4 := hide (HKR4.out.row.lt)
        have HVB := hide (show V8 ≠ b from fun e => by have := HE4.out.mut_lt b (.inr (.inl rfl)); have := HV4.out; omega)
        have HML := hide (HE4.out.mut_lt)
        clear hcl HE4 HKR4 HNM4 HB4
        cases hval : validE y with
        | true =>
          have hp : putR y = 0 := by unfold putR; rw [hval]; rfl
          have HVAL := hide hval
          clear hval
          go_upto_region 15 with (first
            | refine wpList_load_row rfl 29 _ rfl V8 rfl 29 _ (0, 0) _ HV1.out Try.underlying29 rfl (by rw [size_env, HCL.out]) ?_
            | (go_at_call 19
               refine (Put_any HE9.out HV2.out HYS.out).mono ?_
               rintro e w10 ⟨rfl, q1, q2⟩
               have HE10 := hide (show EnvsAt _ w10 g b (putF F2 (nm3 k) y) sz2 (nm3 k) sv2 ([] ++ [name0]) from q1)
               have HK10 := hide q2
               have HV10 := hide (blk_kept HV1.out q2 HVB.out)
               have HM10 := hide (show Kept (Mut g b sv2) w9 w10 from q2.mono (fun k _ h => .inr (.inl h)))
               clear q1 q2)
            | refine wpList_load_row rfl 29 _ rfl V8 rfl 29 _ (0, 0) _ HV10.out Try.underlying29 rfl (by rw [size_env, HCL.out]) ?_
            | refine wpList_store_mid rfl 29 _ _ rfl KB (k * 40) cs3.toArray rfl rfl (by rw [HCL.out]; exact (HKR9.out.keep HM10.out).there HK3N.out) (by rw [size_env, HCL.out]) HOC.out ?_)
          have hK10 : envK.K w10 (okK g b sv2 KB) y cs3 := envK.weaken (ok := fun q => w4.heap.size ≤ q ∧ q ≠ V8) (fun q hq => ⟨fun e => by have := HML.out q e; omega, by have := HKB4.out; omega⟩) (Kind.step HV2.out (fun q hq1 hq2 => HK10.out.block q hq2 (fun e => by have := HML.out b (.inr (.inl rfl)); omega)))
          have hset := (HKR9.out.keep HM10.out).set HK3N.out hK10
          have hkp : Kept (fun q => q = KB) w10 (w10.setCells KB (k * 40) cs3) := (Kept.of_grown (setCells_grown KB cs3 (k * 40) w10)).mono (fun q _ h => (Option.some.inj h).symm)
          have hnk : NB ≠ KB := by
            obtain ⟨cur, hcur, -⟩ := (HKR9.out).row
            exact blk_ne HNM9.out.2 hcur (by decide)
          try simp only [List.toList_toArray]
          generalize (w10.setCells KB (k * 40) cs3) = w11 at hset hkp ⊢
          have hfree := HKR9.out.free
          have HE11 := hide (HE10.out.other (hkp.mono (fun q _ h => ⟨.inr h, by rw [h]; exact hfree⟩)))
          have HKR11 := hide hset
          have hnm10 := HNM9.out.kept HM10.out (fun _ h => .inl h)
          have HNM11 := hide (show NamesAt w11 g b sv2 NB from ⟨hnm10.1, blk_kept hnm10.2 hkp hnk⟩)
          have hb10 := HB9.out.trans (HM10.out.below (B := w.heap.size) HB9.out.size HM4.out)
          have HB11 := hide (hb10.trans (hkp.below (B := w.heap.size) hb10.size (fun q hq => by rw [hq]; exact HKBW.out)))
          clear hK10 hset hkp hnk hfree hnm10 hb10
          go_wp2_with (go_at_call 23
                       refine (Leave_some HE11.out).mono ?_
                       rintro e w12 ⟨rfl, sv3, q1, q2, q3⟩
                       have HE12 := hide q1
                       have HK12 := hide q2
                       have HV12 := hide q3
                       clear q1 q2 q3)
          go_roundw
          case rel =>
            have hf : putF F2 (nm3 k) y = updT F2 (nm3 k) y := by unfold putF; rw [HVAL.out]; rfl
            have hko := HKO2.out
            have he := HE12.out
            rw [hf] at he
            have hm12 : ∀ q, Mut g b sv3 q → w.heap.size ≤ q := fun q hq => by
              rcases hq with hq | hq | hq
              · exact HM4.out q (.inl hq)
              · exact HM4.out q (.inr (.inl hq))
              · rcases HV12.out q hq with h | h
                · exact HM4.out q (.inr (.inr h))
                · exact Nat.le_trans HB11.out.size h
            exact ⟨i + 1, _, sz2, sv3, m.set k y, by go_num, by omega, hide he, hide ⟨hko.2.1.put (by have := HKR11.out.len; rw [List.length_set] at this; exact this) HK3N.out y, by rw [cnt_put hko.1, cnt_put hko.1]; exact hko.2.2.1, by
              by_cases e : nm3 0 = nm3 k
              · exact ⟨y, by rw [e, updT_same]⟩
              · obtain ⟨v, hv⟩ := hko.2.2.2
                exact ⟨v, by rw [updT_other _ _ e]; exact hv⟩⟩, hide (HKR11.out.kept HK12.out HV12.out), hide (HNM11.out.kept HK12.out HV12.out), hide hm12, hide (HB11.out.trans (HK12.out.below (B := w.heap.size) HB11.out.size HM4.out))⟩
          case measure => simp [intOf]; omega
        | false =>
          have hp : putR y = 1 := by unfold putR; rw [hval]; rfl
          have HVAL := hide hval
          clear hval
          go_upto_region 15 with (first
            | refine wpList_load_row rfl 29 _ rfl V8 rfl 29 _ (0, 0) _ HV1.out Try.underlying29 rfl (by rw [size_env, HCL.out]) ?_
            | (go_at_call 19
               refine (Put_any HE9.out HV2.out HYS.out).mono ?_
               rintro e w10 ⟨rfl, q1, q2⟩
               have HE10 := hide (show EnvsAt _ w10 g b (putF F2 (nm3 k) y) sz2 (nm3 k) sv2 ([] ++ [name0]) from q1)
               have HM10 := hide (show Kept (Mut g b sv2) w9 w10 from q2.mono (fun k _ h => .inr (.inl h)))
               clear q1 q2))
          have HB10 := hide (HB9.out.trans (HM10.out.below (B := w.heap.size) HB9.out.size HM4.out))
          go_wp2_with (go_at_call 23
                       refine (Leave_some HE10.out).mono ?_
                       rintro e w12 ⟨rfl, sv3, q1, q2, q3⟩
                       have HE12 := hide q1
                       have HK12 := hide q2
                       have HV12 := hide q3
                       clear q1 q2 q3)
          go_roundw
          case rel =>
            have hf : putF F2 (nm3 k) y = F2 := by unfold putF; rw [HVAL.out]; rfl
            have hko := HKO2.out
            have he := HE12.out
            rw [hf] at he
            have hm12 : ∀ q, Mut g b sv3 q → w.heap.size ≤ q := fun q hq => by
              rcases hq with hq | hq | hq
              · exact HM4.out q (.inl hq)
              · exact HM4.out q (.inr (.inl hq))
              · rcases HV12.out q hq with h | h
                · exact HM4.out q (.inr (.inr h))
                · exact Nat.le_trans HB10.out.size h
            exact ⟨i + 1, F2, sz2, sv3, m, by go_num, by omega, hide he, hide hko.2, hide ((HKR9.out.keep HM10.out).kept HK12.out HV12.out), hide ((HNM9.out.kept HM10.out (fun _ h => .inl h)).kept HK12.out HV12.out), hide hm12, hide (HB10.out.trans (HK12.out.below (B := w.heap.size) HB10.out.size HM4.out))⟩
          case measure => simp [intOf]; omega
    · have jz : ¬ (i : Int) < (n : Int) := by omega
      go_upto_region 17 with fail
      obtain ⟨x, hx0⟩ := HKO.out.2.2
      have hx1 : F name0 = some x := hx0
      have hxm : m[0]? = some x := by
        rcases HKO.out.1 0 (by omega) with e | ⟨e, -⟩
        · rw [← e]; exact hx0
        · rw [e] at hx0; cases hx0
      obtain ⟨csk, hKk, hrk, hlk⟩ := HKR.out.get hxm
      rw [Nat.zero_mul] at hrk
      have HKK := hide hKk
      have HLK := hide hlk
      have HX := hide hx1
      have HSX := hide (HE.out.small _ _ hx1)
      have HSALL := hide (show ∀ Y : World, Below wr.heap.size wr Y → (fun w' : World => w'.rangeAt KB 0 csk) Y from fun Y h j v hv => (cell_same (h.block KB HKR.out.row.lt) _).trans (hrk j v hv))
      clear hx0 hx1 hxm hKk hrk hlk jz hlt hi
      refine wp_region_held_drew (S := (fun w' => w'.rangeAt KB 0 csk)) (by kernel_rfl) (HSALL.out _ (Below.refl wr.heap.size wr).drew) (fun hHeld => ?_)
      refine wpAnyH_take (i := 0) (v := ?_) rfl (by kernel_rfl) (by kernel_rfl) (by kernel_rfl) (fun _ _ _ h => h) (Or.inl ⟨by rfl, ?_⟩) (by assumption) ?_
      rotate_left
      · intro wq hSw
        try dsimp only at hSw
        go_simp
        try with_reducible rfl
      simp only [Act.put, List.setIfInBounds_toArray, List.set_cons_zero, List.set_cons_succ]
      refine wpAnyH_ready (rs := [1]) (by kernel_rfl) (by simp) (AllReadyH.cons rfl (fun K hK => ?_) AllReadyH.nil)
      go_simp
      refine (Depth_any (HE.out.below (Below.refl wr.heap.size wr).drew)).mono ?_
      rintro e w' ⟨rfl, rfl⟩
      go_wp2_with fail
      refine hK.out _ _ (HSALL.out _ (Below.refl wr.heap.size wr).drew) (fun hHeld2 => ?_)
      clear hK K hHeld
      have hHeld := hHeld2
      clear hHeld2
      try simp only [Act.put, List.setIfInBounds_toArray, List.set_cons_zero, List.set_cons_succ]
      refine wpAnyH_ready (rs := [2]) (by kernel_rfl) (by simp) (AllReadyH.cons rfl (fun K hK => ?_) AllReadyH.nil)
      go_simp
      refine hK.out _ _ (HSALL.out _ (Below.refl wr.heap.size wr).drew) (fun hHeld2 => ?_)
      clear hK K hHeld
      have hHeld := hHeld2
      clear hHeld2
      try simp only [Act.put, List.setIfInBounds_toArray, List.set_cons_zero, List.set_cons_succ]
      refine wpAnyH_ready (rs := [3]) (by kernel_rfl) (by simp) (AllReadyH.cons rfl (fun K hK => ?_) AllReadyH.nil)
      go_simp
      refine hK.out _ _ (HSALL.out _ (Below.refl wr.heap.size wr).drew) (fun hHeld2 => ?_)
      clear hK K hHeld
      have hHeld := hHeld2
      clear hHeld2
      try simp only [Act.put, List.setIfInBounds_toArray, List.set_cons_zero, List.set_cons_succ]
      refine wpAnyH_take (i := 4) (v := ?_) rfl (by kernel_rfl) (by kernel_rfl) (by kernel_rfl) (fun _ _ _ h => h) (Or.inl ⟨by rfl, ?_⟩) (by assumption) ?_
      rotate_left
      · intro wq hSw
        try dsimp only at hSw
        go_simp
        try with_reducible rfl
      simp only [Act.put, List.setIfInBounds_toArray, List.set_cons_zero, List.set_cons_succ]
      refine wpAnyH_ready (rs := [5]) (by kernel_rfl) (by simp) (AllReadyH.cons rfl (fun K hK => ?_) AllReadyH.nil)
      go_simp
      refine (Name_any (HE.out.below (Below.refl wr.heap.size wr).drew)).mono ?_
      rintro e w' ⟨rfl, rfl⟩
      unfold name0
      go_wp2_with fail
      refine hK.out _ _ (HSALL.out _ (Below.refl wr.heap.size wr).drew) (fun hHeld2 => ?_)
      clear hK K hHeld
      have hHeld := hHeld2
      clear hHeld2
      try simp only [Act.put, List.setIfInBounds_toArray, List.set_cons_zero, List.set_cons_succ]
      refine wpAnyH_ready (rs := [6]) (by kernel_rfl) (by simp) (AllReadyH.cons rfl (fun K hK => ?_) AllReadyH.nil)
      go_simp
      refine hK.out _ _ (HSALL.out _ (Below.refl wr.heap.size wr).drew) (fun hHeld2 => ?_)
      clear hK K hHeld
      have hHeld := hHeld2
      clear hHeld2
      try simp only [Act.put, List.setIfInBounds_toArray, List.set_cons_zero, List.set_cons_succ]
      refine wpAnyH_ready (rs := [7]) (by kernel_rfl) (by simp) (AllReadyH.cons rfl (fun K hK => ?_) AllReadyH.nil)
      go_simp
      refine hK.out _ _ (HSALL.out _ (Below.refl wr.heap.size wr).drew) (fun hHeld2 => ?_)
      clear hK K hHeld
      have hHeld := hHeld2
      clear hHeld2
      try simp only [Act.put, List.setIfInBounds_toArray, List.set_cons_zero, List.set_cons_succ]
      refine wpAnyH_ready (rs := [8]) (by kernel_rfl) (by simp) (AllReadyH.cons rfl (fun K hK => ?_) AllReadyH.nil)
      go_simp
      refine hK.out _ _ (HSALL.out _ (Below.refl wr.heap.size wr).drew) (fun hHeld2 => ?_)
      clear hK K hHeld
      have hHeld := hHeld2
      clear hHeld2
      try simp only [Act.put, List.setIfInBounds_toArray, List.set_cons_zero, List.set_cons_succ]
      refine wpAnyH_take (i := 9) (v := ?_) rfl (by kernel_rfl) (by kernel_rfl) (by kernel_rfl) (fun _ _ _ h => h) (Or.inl ⟨by rfl, ?_⟩) (by assumption) ?_
      rotate_left
      · intro wq hSw
        try dsimp only at hSw
        go_simp
        try with_reducible rfl
      simp only [Act.put, List.setIfInBounds_toArray, List.set_cons_zero, List.set_cons_succ]
      refine wpAnyH_take (i := 11) (v := ?_) rfl (by kernel_rfl) (by kernel_rfl) (by kernel_rfl) (fun _ _ _ h => h) (Or.inl ⟨by rfl, ?_⟩) (by assumption) ?_
      rotate_left
      · intro wq hSw
        try dsimp only at hSw
        go_simp
        try with_reducible rfl
      simp only [Act.put, List.setIfInBounds_toArray, List.set_cons_zero, List.set_cons_succ]
      refine wpAnyH_take (i := 12) (v := ?_) rfl (by kernel_rfl) (by kernel_rfl) (by kernel_rfl) (fun _ _ _ h => h) (Or.inl ⟨by rfl, ?_⟩) (by assumption) ?_
      rotate_left
      · intro wq hSw
        try dsimp only at hSw
        go_simp
        try with_reducible rfl
      simp only [Act.put, List.setIfInBounds_toArray, List.set_cons_zero, List.set_cons_succ]
      refine wpAnyH_take (i := 13) (v := .agg csk.toArray) rfl (by kernel_rfl) (by kernel_rfl) (by kernel_rfl) (fun _ _ _ h => h) (yieldsIf_load_mid (by rfl) 29 _ rfl KB (0) (by go_simp) csk _ (fun w' h => h) Try.underlying29 rfl (by rw [size_env, HLK.out])) (by assumption) ?_
      simp only [Act.put, List.setIfInBounds_toArray, List.set_cons_zero, List.set_cons_succ]
      refine wpAnyH_ready (rs := [10]) (by kernel_rfl) (by simp) (AllReadyH.cons rfl (fun K hK => ?_) AllReadyH.nil)
      go_simp
      refine (Now_any (HE.out.below (Below.refl wr.heap.size wr).drew) HX.out).mono ?_
      rintro e w2 ⟨cs2, rfl, q1, q2⟩
      have hb2 : Below wr.heap.size wr w2 := (Below.refl wr.heap.size wr).drew.trans (q2.mono (Nat.le_refl _))
      have HK2 := hide q1
      have HW2 := hide hb2
      clear q1 q2 hb2
      go_wp2_with fail
      refine hK.out _ _ (HSALL.out _ HW2.out) (fun hHeld2 => ?_)
      clear hK K hHeld
      have hHeld := hHeld2
      clear hHeld2
      try simp only [Act.put, List.setIfInBounds_toArray, List.set_cons_zero, List.set_cons_succ]
      refine wpAnyH_ready (rs := [14]) (by kernel_rfl) (by simp) (AllReadyH.cons rfl (fun K hK => ?_) AllReadyH.nil)
      go_simp
      refine (Same_any x x cs2 csk _ _ _ HK2.out (Kind.below HKK.out HW2.out) HSX.out HSX.out).mono ?_
      rw [sameE_self]
      rintro e w3 ⟨rfl, q2⟩
      have hb3 : Below wr.heap.size wr w3 := HW2.out.trans (q2.mono HW2.out.size)
      have HW3 := hide hb3
      clear q2 hb3
      go_wp2_with fail
      refine hK.out _ _ (HSALL.out _ HW3.out) (fun hHeld2 => ?_)
      clear hK K hHeld
      have hHeld := hHeld2
      clear hHeld2
      try simp only [Act.put, List.setIfInBounds_toArray, List.set_cons_zero, List.set_cons_succ]
      refine wpAnyH_ready (rs := [15]) (by kernel_rfl) (by simp) (AllReadyH.cons rfl (fun K hK => ?_) AllReadyH.nil)
      go_simp
      refine hK.out _ _ (HSALL.out _ HW3.out) (fun hHeld2 => ?_)
      clear hK K hHeld
      have hHeld := hHeld2
      clear hHeld2
      try simp only [Act.put, List.setIfInBounds_toArray, List.set_cons_zero, List.set_cons_succ]
      refine wpAnyH_ready (rs := [16]) (by kernel_rfl) (by simp) (AllReadyH.cons rfl (fun K hK => ?_) AllReadyH.nil)
      go_simp
      refine hK.out _ _ (HSALL.out _ HW3.out) (fun hHeld2 => ?_)
      clear hK K hHeld
      have hHeld := hHeld2
      clear hHeld2
      try simp only [Act.put, List.setIfInBounds_toArray, List.set_cons_zero, List.set_cons_succ]
      refine wpAnyH_ready (rs := [17]) (by kernel_rfl) (by simp) (AllReadyH.cons rfl (fun K hK => ?_) AllReadyH.nil)
      go_simp
      refine (sane_any _).mono ?_
      rintro e w4 ⟨rfl, q2⟩
      have hb4 : Below wr.heap.size wr w4 := HW3.out.trans (q2.mono HW3.out.size)
      have HW4 := hide hb4
      clear q2 hb4
      go_wp2_with fail
      refine hK.out _ _ (HSALL.out _ HW4.out) (fun hHeld2 => ?_)
      clear hK K hHeld
      have hHeld := hHeld2
      clear hHeld2
      try simp only [Act.put, List.setIfInBounds_toArray, List.set_cons_zero, List.set_cons_succ]
      refine wpAnyH_ready (rs := [18]) (by kernel_rfl) (by simp) (AllReadyH.cons rfl (fun K hK => ?_) AllReadyH.nil)
      go_simp
      refine hK.out _ _ (HSALL.out _ HW4.out) (fun hHeld2 => ?_)
      clear hK K hHeld
      have hHeld := hHeld2
      clear hHeld2
      try simp only [Act.put, List.setIfInBounds_toArray, List.set_cons_zero, List.set_cons_succ]
      refine wpAnyH_ready (rs := [19]) (by kernel_rfl) (by simp) (AllReadyH.cons rfl (fun K hK => ?_) AllReadyH.nil)
      go_simp
      refine hK.out _ _ (HSALL.out _ HW4.out) (fun hHeld2 => ?_)
      clear hK K hHeld
      have hHeld := hHeld2
      clear hHeld2
      try simp only [Act.put, List.setIfInBounds_toArray, List.set_cons_zero, List.set_cons_succ]
      clear hHeld
      refine wpAnyH_done (by kernel_rfl) ?_ _
      go_wp2_with fail
      go_ret
      exact ⟨rfl, below_self HBE.out HW4.out⟩
end Go.Proofs.Ytekkjieoikgpmaa
