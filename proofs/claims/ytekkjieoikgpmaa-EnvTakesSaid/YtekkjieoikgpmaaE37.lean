/- The law EnvTakes: its walk. -/
import Derived.Test.YtekkjieoikgpmaaE36
import Derived.Test.YtekkjieoikgpmaaE18
set_option linter.unusedVariables false
set_option linter.unusedSimpArgs false
namespace Go.Proofs.Ytekkjieoikgpmaa
open Go.RowKit
set_option maxHeartbeats 12800000
set_option maxRecDepth 1000000
theorem EnvTakes_any (A1 : Option Addr) (n1 c1 : Nat) (P : List Int) (ok1 : Nat → Prop) (A2 : Option Addr) (n2 c2 : Nat) (N : List Int) (ok2 : Nat → Prop) (A3 : Option Addr) (n3 c3 : Nat) (R : List Int) (ok3 : Nat → Prop) (w : World) (hP : Kind.int.Rd w ok1 A1 n1 P) (hN : Kind.int.Rd w ok2 A2 n2 N) (hR : Kind.int.Rd w ok3 A3 n3 R)
    (hPb : ∀ z ∈ P, inI z) (hNb : ∀ z ∈ N, inI z) (hRb : ∀ z ∈ R, inI z) (hn : n1 ≤ 1000000000000000 ∧ n2 ≤ 1000000000000000 ∧ n3 ≤ 1000000000000000) :
    Calls Try.prog 6 #[.slice A1 n1 c1, .slice A2 n2 c2, .slice A3 n3 c3] w fun e w' => e = .returned (.bool true) ∧ Below w.heap.size w w' := by
  obtain ⟨hn1, hn2, hn3⟩ := hn
  have HP := hide hP
  have HN := hide hN
  have HR := hide hR
  have HPB := hide hPb
  have HNB := hide hNb
  have HRB := hide hRb
  have HPL := hide hP.1
  have HNL := hide hN.1
  have HRL := hide hR.1
  have HNA : Hid (nameB ⟨#[97]⟩ = true) := hide (by kernel_rfl)
  have HA0 : Hid ((⟨#[97]⟩ : ByteArray) ≠ name0) := hide (by decide)
  clear hP hN hR hPb hNb hRb
  by_cases h100 : 100 < n1 + n2 + n3
  · have jz : (100 : Int) < (n1 : Int) + (n2 : Int) + (n3 : Int) := by omega
    go_enter Try.func6, Try.ntmps6
    go_wp2_with (go_at_call 9; refine (sane_any _).mono ?_; rintro e w1 ⟨rfl, q⟩; have Q := hide q; clear q)
    go_ret
    exact ⟨rfl, Q.out⟩
  have jz : ¬ (100 : Int) < (n1 : Int) + (n2 : Int) + (n3 : Int) := by omega
  go_enter Try.func6, Try.ntmps6
  go_upto_region 4 with (go_at_call 17
                         refine (New_any _).mono ?_
                         rintro e w1 ⟨g, b, rfl, q1, q2, q3, q4⟩
                         have HG := hide q1
                         have HB0 := hide q2
                         have HE1 := hide q3
                         have HBE1 := hide q4
                         clear q1 q2 q3 q4)
  have hM0 : ∀ k, Mut g b (.slice none 0 0) k → w.heap.size ≤ k := fun k hk => by
    rcases hk with hk | hk | hk
    · rw [hk]; exact HG.out
    · rw [hk]; exact HB0.out
    · simp [Value.ownBlock] at hk
  have HM0 := hide hM0
  clear jz h100 hM0
  go_wp2_with fail
  go_loopw [8] (fun t8 wr => ∃ (i : Nat) (F : ByteArray → Option EnvT) (x : EnvT), t8 = .int .i64 i ∧ i ≤ n1 ∧ Hid (EnvsAt wr g b F 1 name0 (.slice none 0 0) []) ∧ Hid (F name0 = some x) ∧ Hid (∀ s, s ≠ name0 → F s = none) ∧ Hid (Below w.heap.size w wr)) (fun t8 _ => n1 - (intOf t8).toNat)
  case atStart => exact ⟨0, _, firstT, rfl, Nat.zero_le _, HE1, hide (updT_same _ _ _), hide (fun s hs => updT_other _ _ hs), HBE1⟩
  case round =>
    clear HE1 HBE1
    obtain ⟨i, F, x, rfl, hi, HE, HX, HD, HBE⟩ := hrel
    by_cases hlt : i < n1
    · obtain ⟨z, hzx⟩ : ∃ z, P[i]? = some z := ⟨_, List.getElem?_eq_getElem (by have := HPL.out; omega)⟩
      have hz : inI z := HPB.out z (List.mem_of_getElem? hzx)
      obtain ⟨b2, o2, rfl, p0w⟩ := rd_int2 HP.out hzx
      have HB2L := hide (show b2 < wr.heap.size from Nat.lt_of_lt_of_le (cell_lt p0w) HBE.out.size)
      have HB2N := hide (show b2 ≠ b from fun e => by have := cell_lt p0w; have := HB0.out; omega)
      have p0 := cell_stays HBE.out p0w
      have jz : (i : Int) < (n1 : Int) := by omega
      clear hzx p0w
      obtain ⟨y, hys, hch⟩ := changed_any z hz x (HE.out.small _ _ HX.out)
      have HYS := hide hys
      have HCH := hide hch
      clear hys hch
      go_upto_region 7 with fail
      have hdr : Below wr.heap.size wr wr.drew := (Below.refl _ _).drew
      have HSM1 := hide (show wr.drew.cell? ⟨b2, o2 + i, none⟩ = some (.int .i64 z) from cell_stays hdr p0)
      clear p0
      go_region_held3 (fun w' => w'.cell? ⟨b2, o2 + i, none⟩ = some (.int .i64 z))
        (first | exact HSM1.out | exact HS2.out | exact HS3.out | exact HS4.out)
        (first
          | (go_at_call 18
             refine (Now_any (HE.out.below (Below.refl wr.heap.size wr).drew) HX.out).mono ?_
             rintro e w2 ⟨cs2, rfl, q1, q2⟩
             have hb2 : Below wr.heap.size wr w2 := (Below.refl wr.heap.size wr).drew.trans (q2.mono (Nat.le_refl _))
             have HS2 := hide ((cell_same (hb2.block b2 HB2L.out) _).trans HSM1.out)
             have HK2 := hide q1
             have HW2 := hide hb2
             clear q1 q2 hb2)
          | (go_at_call 21
             refine (HCH.out _ _ cs2 HK2.out).mono ?_
             rintro e w3 ⟨cs3, rfl, q1, q2⟩
             have hb3 : Below wr.heap.size wr w3 := HW2.out.trans (q2.mono HW2.out.size)
             have HS3 := hide ((cell_same (hb3.block b2 HB2L.out) _).trans HSM1.out)
             have HK3 := hide q1
             have HW3 := hide hb3
             clear q1 q2 hb3)
          | (go_at_call 19
             refine (Put_any (HE.out.below HW3.out) HK3.out HYS.out).mono ?_
             rintro e w4 ⟨rfl, q1, q2⟩
             have hk4 := (Kept.of_below (S := fun k => k = b) HW3.out).trans q2 (fun _ _ h => h) (fun _ _ h => h)
             have HS4 := hide ((cell_same (hk4.block b2 HB2L.out HB2N.out) _).trans HSM1.out)
             have HE4 := hide (show EnvsAt w4 g b (putF F name0 y) 1 name0 (.slice none 0 0) [] from q1)
             have HK4 := hide hk4
             clear q1 q2 hk4))
      clear HSM1 HS2 HS3 HS4 hdr
      go_wp2_with fail
      go_roundw
      case rel =>
        obtain ⟨x', hx'⟩ := putF_some (x := y) (now := name0) ⟨x, HX.out⟩
        exact ⟨i + 1, _, x', by go_num, by omega, HE4, hide hx', hide (fun s hs => by rw [putF_other hs]; exact HD.out s hs), hide (HBE.out.trans (HK4.out.below (B := w.heap.size) HBE.out.size (fun k hk => by have := HB0.out; omega)))⟩
      case measure => simp [intOf]; omega
    · have jz : ¬ (i : Int) < (n1 : Int) := by omega
      go_upto_region 9 with (first
        | (go_at_call 18
           refine (Now_any HE.out HX.out).mono ?_
           rintro e v2a ⟨cs2, rfl, q1, q2⟩
           obtain ⟨C, hC⟩ : ∃ C, C = cs2.toArray := ⟨_, rfl⟩
           have hCl : C.size = 40 := by rw [hC]; have : cs2.length = 40 := envK.len q1; simpa using this
           have hC1 : C.all (·.oneCell') = true := by rw [hC]; exact all_oneCell_toArray (envK.one q1)
           rw [← hC]
           have HCE := hide hC
           have HCL := hide hCl
           have HC1 := hide hC1
           have HCS := hide (show (Try.prog.info? 29).map (·.size) = some C.size by rw [size_env, hCl])
           have HK2 := hide q1
           have HW2 := hide q2
           clear q1 q2 hC hCl hC1)
        | refine wpList_store_row rfl 29 _ _ rfl v2a.heap.size C rfl rfl 29 _ (blk_new _ _) HCS.out (by rw [HCL.out]; rfl) HC1.out ?_)
      refine wp_setRow (blk_new _ _) ?_
      intro WSa hb3 hk3 hsz3
      have hb23 : Below v2a.heap.size v2a WSa := ((Below.refl _ _).alloc (Nat.le_refl _) (.cells _ 29)).trans (hk3.below (by simp) (fun i h => by omega))
      have HSVa := hide (saved_new HE.out HW2.out HK2.out (by rw [← HCE.out]; exact hb3) hb23)
      have HEa := hide (HE.out.below (HW2.out.trans (hb23.mono HW2.out.size)))
      have HKPa := hide (HW2.out.trans (hb23.mono HW2.out.size))
      have HBa := hide (HBE.out.trans ((HW2.out.trans (hb23.mono HW2.out.size)).mono HBE.out.size))
      clear hb3 hk3 hsz3 hb23 HK2 HW2 HCE HCL HC1 HCS
      generalize hgB : v2a.heap.size = Ba at HSVa ⊢
      clear hgB
      go_upto_region 10 with (go_at_call 20
                              refine (Enter_any HEa.out (s := ⟨#[97]⟩) (by decide) HNA.out (by show 0 < 20; omega) (by omega)).mono ?_
                              rintro e w5 ⟨rfl, sv2, F3, sz3, q1, q2, q3, q4⟩
                              have HE5 := hide q1
                              have HF5 := hide q2
                              have HK5 := hide q3
                              have HV5 := hide q4
                              clear q1 q2 q3 q4)
      have hf : F3 name0 = some x ∧ (∀ s, s ≠ name0 → s ≠ ⟨#[97]⟩ → F3 s = none) ∧ sz3 ≤ 2 := by
        rcases HF5.out with ⟨e1, e2⟩ | ⟨-, e1, e2⟩
        · exact ⟨by rw [e1]; exact HX.out, fun s h1 h2 => by rw [e1]; exact HD.out s h1, by omega⟩
        · exact ⟨by rw [e1, updT_other _ _ HA0.out.symm]; exact HX.out, fun s h1 h2 => by rw [e1, updT_other _ _ h2]; exact HD.out s h1, by omega⟩
      have hm5 : ∀ k, Mut g b sv2 k → w.heap.size ≤ k := fun k hk => by
        rcases hk with hk | hk | hk
        · exact HM0.out k (.inl hk)
        · exact HM0.out k (.inr (.inl hk))
        · rcases HV5.out k hk with h | h
          · exact HM0.out k (.inr (.inr h))
          · exact Nat.le_trans HBa.out.size h
      have hbe5 := HBa.out.trans (HK5.out.below (B := w.heap.size) HBa.out.size HM0.out)
      have HM5 := hide hm5
      have HBE5 := hide hbe5
      have HXF := hide hf.1
      have HDF := hide hf.2.1
      have HSA := hide (HSVa.out.kept HK5.out HV5.out)
      obtain ⟨y0, hy0⟩ := HE5.out.here
      have HY0 := hide hy0
      have hs3 : sz3 ≤ 2 := hf.2.2
      clear hf hm5 hbe5 hy0 HSVa HEa HKPa HBa HE HX HD HBE HK5 HV5 HF5 HM0 jz hlt hi
      go_wp2_with fail
      go_loopw [10] (fun t10 wr => ∃ (i : Nat) (F : ByteArray → Option EnvT) (y : EnvT), t10 = .int .i64 i ∧ i ≤ n2 ∧ Hid (EnvsAt wr g b F sz3 ⟨#[97]⟩ sv2 ([] ++ [name0])) ∧ Hid (F ⟨#[97]⟩ = some y) ∧ Hid (F name0 = some x ∧ ∀ s, s ≠ name0 → s ≠ ⟨#[97]⟩ → F s = none) ∧ Hid (Saved wr g b sv2 Ba x) ∧ Hid (Below w.heap.size w wr)) (fun t10 _ => n2 - (intOf t10).toNat)
      case atStart => exact ⟨0, F3, y0, rfl, Nat.zero_le _, HE5, HY0, hide ⟨HXF.out, HDF.out⟩, HSA, HBE5⟩
      case round =>
        clear HE5 HY0 HXF HDF HSA HBE5
        obtain ⟨i, F, x2, rfl, hi, HE, HX, HD, HSA, HBE⟩ := hrel
        by_cases hlt : i < n2
        · obtain ⟨z, hzx⟩ : ∃ z, N[i]? = some z := ⟨_, List.getElem?_eq_getElem (by have := HNL.out; omega)⟩
          have hz : inI z := HNB.out z (List.mem_of_getElem? hzx)
          obtain ⟨b2, o2, rfl, p0w⟩ := rd_int2 HN.out hzx
          have HB2L := hide (show b2 < wr.heap.size from Nat.lt_of_lt_of_le (cell_lt p0w) HBE.out.size)
          have HB2N := hide (show b2 ≠ b from fun e => by have := cell_lt p0w; have := HB0.out; omega)
          have p0 := cell_stays HBE.out p0w
          have jz : (i : Int) < (n2 : Int) := by omega
          clear hzx p0w
          obtain ⟨y, hys, hch⟩ := changed_any z hz x2 (HE.out.small _ _ HX.out)
          have HYS := hide hys
          have HCH := hide hch
          clear hys hch
          go_upto_region 13 with fail
          have hdr : Below wr.heap.size wr wr.drew := (Below.refl _ _).drew
          have HSM1 := hide (show wr.drew.cell? ⟨b2, o2 + i, none⟩ = some (.int .i64 z) from cell_stays hdr p0)
          clear p0
          go_region_held3 (fun w' => w'.cell? ⟨b2, o2 + i, none⟩ = some (.int .i64 z))
            (first | exact HSM1.out | exact HS2.out | exact HS3.out | exact HS4.out)
            (first
              | (go_at_call 18
                 refine (Now_any (HE.out.below (Below.refl wr.heap.size wr).drew) HX.out).mono ?_
                 rintro e w2 ⟨cs2, rfl, q1, q2⟩
                 have hb2 : Below wr.heap.size wr w2 := (Below.refl wr.heap.size wr).drew.trans (q2.mono (Nat.le_refl _))
                 have HS2 := hide ((cell_same (hb2.block b2 HB2L.out) _).trans HSM1.out)
                 have HK2 := hide q1
                 have HW2 := hide hb2
                 clear q1 q2 hb2)
              | (go_at_call 21
                 refine (HCH.out _ _ cs2 HK2.out).mono ?_
                 rintro e w3 ⟨cs3, rfl, q1, q2⟩
                 have hb3 : Below wr.heap.size wr w3 := HW2.out.trans (q2.mono HW2.out.size)
                 have HS3 := hide ((cell_same (hb3.block b2 HB2L.out) _).trans HSM1.out)
                 have HK3 := hide q1
                 have HW3 := hide hb3
                 clear q1 q2 hb3)
              | (go_at_call 19
                 refine (Put_any (HE.out.below HW3.out) HK3.out HYS.out).mono ?_
                 rintro e w4 ⟨rfl, q1, q2⟩
                 have hk4 := (Kept.of_below (S := fun k => k = b) HW3.out).trans q2 (fun _ _ h => h) (fun _ _ h => h)
                 have HS4 := hide ((cell_same (hk4.block b2 HB2L.out HB2N.out) _).trans HSM1.out)
                 have HE4 := hide (show EnvsAt w4 g b (putF F ⟨#[97]⟩ y) sz3 ⟨#[97]⟩ sv2 ([] ++ [name0]) from q1)
                 have HK4 := hide hk4
                 clear q1 q2 hk4))
          clear HSM1 HS2 HS3 HS4 hdr
          go_wp2_with fail
          go_roundw
          case rel =>
            obtain ⟨x', hx'⟩ := putF_some (x := y) (now := ⟨#[97]⟩) ⟨x2, HX.out⟩
            exact ⟨i + 1, _, x', by go_num, by omega, HE4, hide hx', hide ⟨by rw [putF_other HA0.out.symm]; exact HD.out.1, fun s h1 h2 => by rw [putF_other h2]; exact HD.out.2 s h1 h2⟩, hide (HSA.out.keep (HK4.out.mono (fun k _ h => .inr (.inl h)))), hide (HBE.out.trans (HK4.out.below (B := w.heap.size) HBE.out.size (fun k hk => by have := HB0.out; omega)))⟩
          case measure => simp [intOf]; omega
        · have jz : ¬ (i : Int) < (n2 : Int) := by omega
          go_upto_region 15 with (first
            | (go_at_call 18
               refine (Now_any HE.out HX.out).mono ?_
               rintro e v2b ⟨cs2, rfl, q1, q2⟩
               obtain ⟨C, hC⟩ : ∃ C, C = cs2.toArray := ⟨_, rfl⟩
               have hCl : C.size = 40 := by rw [hC]; have : cs2.length = 40 := envK.len q1; simpa using this
               have hC1 : C.all (·.oneCell') = true := by rw [hC]; exact all_oneCell_toArray (envK.one q1)
               rw [← hC]
               have HCE := hide hC
               have HCL := hide hCl
               have HC1 := hide hC1
               have HCS := hide (show (Try.prog.info? 29).map (·.size) = some C.size by rw [size_env, hCl])
               have HK2 := hide q1
               have HW2 := hide q2
               clear q1 q2 hC hCl hC1)
            | refine wpList_store_row rfl 29 _ _ rfl v2b.heap.size C rfl rfl 29 _ (blk_new _ _) HCS.out (by rw [HCL.out]; rfl) HC1.out ?_)
          refine wp_setRow (blk_new _ _) ?_
          intro WSb hb3 hk3 hsz3
          have hb23 : Below v2b.heap.size v2b WSb := ((Below.refl _ _).alloc (Nat.le_refl _) (.cells _ 29)).trans (hk3.below (by simp) (fun i h => by omega))
          have HSVb := hide (saved_new HE.out HW2.out HK2.out (by rw [← HCE.out]; exact hb3) hb23)
          have HEb := hide (HE.out.below (HW2.out.trans (hb23.mono HW2.out.size)))
          have HKPb := hide (HW2.out.trans (hb23.mono HW2.out.size))
          have HBb := hide (HBE.out.trans ((HW2.out.trans (hb23.mono HW2.out.size)).mono HBE.out.size))
          clear hb3 hk3 hsz3 hb23 HK2 HW2 HCE HCL HC1 HCS
          generalize hgB : v2b.heap.size = Bb at HSVb ⊢
          clear hgB
          have HSA1 := hide (HSA.out.keep (Kept.of_below HKPb.out))
          go_upto_region 16 with (go_at_call 23
                                  refine (Leave_some HEb.out).mono ?_
                                  rintro e w6 ⟨rfl, sv3, q1, q2, q3⟩
                                  have HE6 := hide q1
                                  have HK6 := hide q2
                                  have HV6 := hide q3
                                  clear q1 q2 q3)
          have HSA6 := hide (HSA1.out.kept HK6.out HV6.out)
          have HSB6 := hide (HSVb.out.kept HK6.out HV6.out)
          have HBE6 := hide (HBb.out.trans (HK6.out.below (B := w.heap.size) HBb.out.size HM5.out))
          have hm6 : ∀ k, Mut g b sv3 k → w.heap.size ≤ k := fun k hk => by
            rcases hk with hk | hk | hk
            · exact HM5.out k (.inl hk)
            · exact HM5.out k (.inr (.inl hk))
            · rcases HV6.out k hk with h | h
              · exact HM5.out k (.inr (.inr h))
              · exact Nat.le_trans HBb.out.size h
          have HM6 := hide hm6
          clear hm6 HK6 HV6 HSVb HSA1 HEb HKPb HBb HSA HE HBE jz hlt hi
          go_upto_region 18 with (go_at_call 25
                                  refine (Take_some HE6.out HX.out HD.out.1).mono ?_
                                  rintro e w7 ⟨rfl, q1, q2⟩
                                  have HE7 := hide q1
                                  have HK7 := hide q2
                                  clear q1 q2)
          have HSA7 := hide (HSA6.out.keep (HK7.out.mono (fun k _ h => .inr (.inl h))))
          have HSB7 := hide (HSB6.out.keep (HK7.out.mono (fun k _ h => .inr (.inl h))))
          have HBE7 := hide (HBE6.out.trans (HK7.out.below (B := w.heap.size) HBE6.out.size (fun k hk => by have := HB0.out; omega)))
          clear HSA6 HSB6 HBE6 HK7 HE6
          obtain ⟨hnA, csA, hbA, hKA⟩ := HSA7.out
          obtain ⟨hnB, csB, hbB, hKB⟩ := HSB7.out
          obtain ⟨uA, vA, rfl, hsA, hrA⟩ := id hKA
          obtain ⟨uB, vB, rfl, hsB, hrB⟩ := id hKB
          obtain ⟨Ax, cx, rfl, -, -, -⟩ := id hrA
          have HBA := hide hbA
          have HBB := hide hbB
          have HRA := hide hrA
          have HSTB := hide hsB
          have hvB1 := hrB.one
          have HOB := hide (env_one x2 hsB.one hrB.one)
          clear hnA hbA hKA hnB hbB hKB hsA hrA hsB hrB
          go_upto_region 19 with (first
            | refine wpList_load_row rfl 29 _ rfl Bb rfl 29 _ (0, 0) _ HBB.out Try.underlying29 rfl size_env ?_
            | refine wpList_store_row rfl 29 _ _ rfl w7.heap.size (x2.cells uB vB).toArray rfl rfl 29 _ (blk_new _ _) size_env rfl HOB.out ?_)
          refine wp_setRow (blk_new _ _) ?_
          intro W8 hb8 hk8 hsz8
          have hb78 : Below w7.heap.size w7 W8 := ((Below.refl _ _).alloc (Nat.le_refl _) (.cells _ 29)).trans (hk8.below (by simp) (fun i h => by omega))
          have hneA : Ba ≠ w7.heap.size := fun e => by have := blk_lt HBA.out; omega
          have hneB : Bb ≠ w7.heap.size := fun e => by have := blk_lt HBB.out; omega
          have HNEA := hide hneA
          have HNEB := hide hneB
          have hbA8 := blk_below HBA.out hb78 (blk_lt HBA.out)
          have HBA8 := hide hbA8
          have HB8 := hide hb8
          have HW78 := hide hb78
          have HSZ7 := hide (rfl : w7.heap.size = w7.heap.size)
          obtain ⟨G, hG⟩ : ∃ G, G = w7.heap.size := ⟨_, rfl⟩
          rw [← hG] at HB8 HNEA HNEB ⊢
          have HGE := hide hG
          clear hb8 hk8 hsz8 hb78 hneA hneB hbA8 hG HSZ7
          obtain ⟨AB, cB, hvBe⟩ : ∃ A c, vB = .slice A x2.row.length c := by
            obtain ⟨-, csB, hbB, ⟨u', v', e, -, ⟨A', c', e2, -⟩⟩⟩ := HSB7.out
            have h1 := HBB.out
            rw [hbB] at h1
            have h2 : csB.toArray = (x2.cells uB vB).toArray := by injection h1 with h1; injection h1
            have h3 : csB = x2.cells uB vB := by simpa using h2
            rw [e] at h3
            obtain ⟨-, e4⟩ := env_inj h3
            exact ⟨A', c', by rw [← e4, e2]⟩
          subst hvBe
          have hS8 : ∀ W : World, W.heap[Ba]? = W8.heap[Ba]? → (fun w' : World => w'.cell? ⟨Ba, 35, none⟩ = some (.slice Ax x.row.length cx) ∧ w'.cell? ⟨Ba, 36, none⟩ = some (.int .i64 x.before) ∧ w'.cell? ⟨Ba, 37, none⟩ = some (.int .i64 x.after) ∧ w'.cell? ⟨Ba, 38, none⟩ = some (.bool x.joined)) W := fun W hW => by
            have hbw := hW.trans HBA8.out
            refine ⟨?_, ?_, ?_, ?_⟩ <;> rw [blk_cell hbw] <;> rfl
          have HS8 := hide hS8
          have y35 : W8.cell? ⟨G, 35, none⟩ = some (.slice AB x2.row.length cB) := by rw [blk_cell HB8.out]; rfl
          have y36 : W8.cell? ⟨G, 36, none⟩ = some (.int .i64 x2.before) := by rw [blk_cell HB8.out]; rfl
          have y37 : W8.cell? ⟨G, 37, none⟩ = some (.int .i64 x2.after) := by rw [blk_cell HB8.out]; rfl
          have y38 : W8.cell? ⟨G, 38, none⟩ = some (.bool x2.joined) := by rw [blk_cell HB8.out]; rfl
          have f35 : W8.frozen? ⟨G, 35, none⟩ = false := blk_frozen HB8.out
          have f36 : W8.frozen? ⟨G, 36, none⟩ = false := blk_frozen HB8.out
          have f37 : W8.frozen? ⟨G, 37, none⟩ = false := blk_frozen HB8.out
          have f38 : W8.frozen? ⟨G, 38, none⟩ = false := blk_frozen HB8.out
          clear hS8 hvB1
          go_region_held3 (fun w' => w'.cell? ⟨Ba, 35, none⟩ = some (.slice Ax x.row.length cx) ∧ w'.cell? ⟨Ba, 36, none⟩ = some (.int .i64 x.before) ∧ w'.cell? ⟨Ba, 37, none⟩ = some (.int .i64 x.after) ∧ w'.cell? ⟨Ba, 38, none⟩ = some (.bool x.joined))
            (first
              | exact HS8.out _ rfl
              | exact HS8.out _ (Below.heap_setCell _ _ _ _ HNEA.out)
              | exact HS8.out _ ((Below.heap_setCell _ _ _ _ HNEA.out).trans (Below.heap_setCell _ _ _ _ HNEA.out))
              | exact HS8.out _ ((Below.heap_setCell _ _ _ _ HNEA.out).trans ((Below.heap_setCell _ _ _ _ HNEA.out).trans (Below.heap_setCell _ _ _ _ HNEA.out)))
              | exact HS8.out _ ((Below.heap_setCell _ _ _ _ HNEA.out).trans ((Below.heap_setCell _ _ _ _ HNEA.out).trans ((Below.heap_setCell _ _ _ _ HNEA.out).trans (Below.heap_setCell _ _ _ _ HNEA.out)))))
            (fail)
          clear y35 y36 y37 y38 f35 f36 f37 f38
          go_upto_region 20 with fail
          refine wp_gen (fun W : World => W.heap[G]? = some (.cells ((takeT x2 x).cells uB (.slice Ax x.row.length cx)).toArray 29 (0, 0)) ∧ Kept (fun k => k = G) W8 W) ⟨?_, ?_⟩ ?_
          · have hbb := blk_set (blk_set (blk_set (blk_set HB8.out 35 (.slice Ax x.row.length cx)) 36 (.int .i64 x.before)) 37 (.int .i64 x.after)) 38 (.bool x.joined)
            rw [take_cells] at hbb
            exact hbb
          · exact (((((Kept.refl (fun k => k = G) W8).setCell (p := ⟨G, 35, none⟩) (.inl rfl) _).setCell (p := ⟨G, 36, none⟩) (.inl rfl) _).setCell (p := ⟨G, 37, none⟩) (.inl rfl) _).setCell (p := ⟨G, 38, none⟩) (.inl rfl) _).drew
          rintro W9 ⟨hb9, hk9⟩
          have hge := HGE.out
          have hb79 : Below w7.heap.size w7 W9 := HW78.out.trans (hk9.below HW78.out.size (fun i h => by omega))
          have HE9 := hide (HE7.out.below hb79)
          have HSB9 := hide (HSB7.out.keep (Kept.of_below hb79))
          have HBE9 := hide (HBE7.out.trans (hb79.mono HBE7.out.size))
          have HB9 := hide hb9
          have HKW := hide (show envK.K W9 (fun _ => True) (takeT x2 x) ((takeT x2 x).cells uB (.slice Ax x.row.length cx)) from ⟨_, _, rfl, (HSTB.out.below hb79).weaken (fun _ _ => trivial), (HRA.out.below hb79).weaken (fun _ _ => trivial)⟩)
          have HSM := hide (HE9.out.small _ _ (updT_same _ _ _))
          clear hb9 hk9 hge hb79 HB8 HW78 HBA8 HS8 HRA HSTB HBA HBB HOB HSA7 HSB7 HBE7 HE7 HNEA HNEB HGE
          have HS1 := hide (show W9.drew.heap[G]? = some (.cells ((takeT x2 x).cells uB (.slice Ax x.row.length cx)).toArray 29 (0, 0)) from HB9.out)
          refine wp_region_held_drew (S := (fun w' => w'.heap[G]? = some (.cells ((takeT x2 x).cells uB (.slice Ax x.row.length cx)).toArray 29 (0, 0)))) (by kernel_rfl) HS1.out (fun hHeld => ?_)
          refine wpAnyH_take (i := 0) (v := ?_) rfl (by kernel_rfl) (by kernel_rfl) (by kernel_rfl) (fun _ _ _ h => h) (Or.inl ⟨by rfl, ?_⟩) (by assumption) ?_
          rotate_left
          · intro wq hSw
            try dsimp only at hSw
            go_simp
            try with_reducible rfl
          simp only [Act.put, List.setIfInBounds_toArray, List.set_cons_zero, List.set_cons_succ]
          refine wpAnyH_take (i := 2) (v := .agg ((takeT x2 x).cells uB (.slice Ax x.row.length cx)).toArray) rfl (by kernel_rfl) (by kernel_rfl) (by kernel_rfl) (fun _ _ _ h => h) (yieldsIf_load_row (by rfl) 29 _ rfl G (by go_simp) 29 ((takeT x2 x).cells uB (.slice Ax x.row.length cx)).toArray (0, 0) _ (fun w' h => h) Try.underlying29 rfl size_env) (by assumption) ?_
          simp only [Act.put, List.setIfInBounds_toArray, List.set_cons_zero, List.set_cons_succ]
          refine wpAnyH_ready (rs := [1]) (by kernel_rfl) (by simp) (AllReadyH.cons rfl (fun K hK => ?_) AllReadyH.nil)
          go_simp
          refine (Now_any (HE9.out.below (Below.refl W9.heap.size W9).drew) (updT_same _ _ _)).mono ?_
          rintro e w2 ⟨cs2, rfl, q1, q2⟩
          have hb2 : Below W9.heap.size W9 w2 := (Below.refl W9.heap.size W9).drew.trans (q2.mono (Nat.le_refl _))
          have HS2 := hide (blk_below HB9.out hb2 (blk_lt HB9.out))
          have HK2 := hide q1
          have HW2 := hide hb2
          clear q1 q2 hb2
          go_wp2_with fail
          refine hK.out _ _ HS2.out (fun hHeld2 => ?_)
          clear hK K hHeld
          have hHeld := hHeld2
          clear hHeld2
          try simp only [Act.put, List.setIfInBounds_toArray, List.set_cons_zero, List.set_cons_succ]
          refine wpAnyH_ready (rs := [3]) (by kernel_rfl) (by simp) (AllReadyH.cons rfl (fun K hK => ?_) AllReadyH.nil)
          go_simp
          refine (Same_any (takeT x2 x) (takeT x2 x) cs2 _ _ _ _ HK2.out (Kind.below HKW.out HW2.out) HSM.out HSM.out).mono ?_
          rw [sameE_self]
          rintro e w3 ⟨rfl, q2⟩
          have hb3 : Below W9.heap.size W9 w3 := HW2.out.trans (q2.mono HW2.out.size)
          have HS3 := hide (blk_below HB9.out hb3 (blk_lt HB9.out))
          have HW3 := hide hb3
          clear q2 hb3
          go_wp2_with fail
          refine hK.out _ _ HS3.out (fun hHeld2 => ?_)
          clear hK K hHeld
          have hHeld := hHeld2
          clear hHeld2
          try simp only [Act.put, List.setIfInBounds_toArray, List.set_cons_zero, List.set_cons_succ]
          refine wpAnyH_ready (rs := [4]) (by kernel_rfl) (by simp) (AllReadyH.cons rfl (fun K hK => ?_) AllReadyH.nil)
          go_simp
          refine hK.out _ _ HS3.out (fun hHeld2 => ?_)
          clear hK K hHeld
          have hHeld := hHeld2
          clear hHeld2
          try simp only [Act.put, List.setIfInBounds_toArray, List.set_cons_zero, List.set_cons_succ]
          clear hHeld
          refine wpAnyH_done (by kernel_rfl) ?_ _
          have HE10 := hide (HE9.out.below HW3.out)
          have HSB10 := hide (HSB9.out.keep (Kept.of_below HW3.out))
          have HBE10 := hide (HBE9.out.trans (HW3.out.mono HBE9.out.size))
          have HX10 := hide (show updT F name0 (takeT x2 x) ⟨#[97]⟩ = some x2 by rw [updT_other _ _ HA0.out]; exact HX.out)
          have HD10 := hide (show ∀ s, s ≠ name0 → s ≠ ⟨#[97]⟩ → updT F name0 (takeT x2 x) s = none from fun s h1 h2 => by rw [updT_other _ _ h1]; exact HD.out.2 s h1 h2)
          clear HE9 HSB9 HBE9 HX HD HS1 HS2 HS3 HK2 HW2 HW3 HKW HSM HB9
          go_wp2_with fail
          go_loopw [13] (fun t13 wr => ∃ (i : Nat) (F : ByteArray → Option EnvT) (x : EnvT), t13 = .int .i64 i ∧ i ≤ n3 ∧ Hid (EnvsAt wr g b F sz3 name0 sv3 []) ∧ Hid (F name0 = some x) ∧ Hid (F ⟨#[97]⟩ = some x2 ∧ ∀ s, s ≠ name0 → s ≠ ⟨#[97]⟩ → F s = none) ∧ Hid (Saved wr g b sv3 Bb x2) ∧ Hid (Below w.heap.size w wr)) (fun t13 _ => n3 - (intOf t13).toNat)
          case atStart => exact ⟨0, _, _, rfl, Nat.zero_le _, HE10, hide (updT_same _ _ _), hide ⟨HX10.out, HD10.out⟩, HSB10, HBE10⟩
          case round =>
            clear HE10 HSB10 HBE10 HX10 HD10
            obtain ⟨i, F, x, rfl, hi, HE, HX, HD, HSB, HBE⟩ := hrel
            by_cases hlt : i < n3
            · obtain ⟨z, hzx⟩ : ∃ z, R[i]? = some z := ⟨_, List.getElem?_eq_getElem (by have := HRL.out; omega)⟩
              have hz : inI z := HRB.out z (List.mem_of_getElem? hzx)
              obtain ⟨b2, o2, rfl, p0w⟩ := rd_int2 HR.out hzx
              have HB2L := hide (show b2 < wr.heap.size from Nat.lt_of_lt_of_le (cell_lt p0w) HBE.out.size)
              have HB2N := hide (show b2 ≠ b from fun e => by have := cell_lt p0w; have := HB0.out; omega)
              have p0 := cell_stays HBE.out p0w
              have jz : (i : Int) < (n3 : Int) := by omega
              clear hzx p0w
              obtain ⟨y, hys, hch⟩ := changed_any z hz x (HE.out.small _ _ HX.out)
              have HYS := hide hys
              have HCH := hide hch
              clear hys hch
              go_upto_region 25 with fail
              have hdr : Below wr.heap.size wr wr.drew := (Below.refl _ _).drew
              have HSM1 := hide (show wr.drew.cell? ⟨b2, o2 + i, none⟩ = some (.int .i64 z) from cell_stays hdr p0)
              clear p0
              go_region_held3 (fun w' => w'.cell? ⟨b2, o2 + i, none⟩ = some (.int .i64 z))
                (first | exact HSM1.out | exact HS2.out | exact HS3.out | exact HS4.out)
                (first
                  | (go_at_call 18
                     refine (Now_any (HE.out.below (Below.refl wr.heap.size wr).drew) HX.out).mono ?_
                     rintro e w2 ⟨cs2, rfl, q1, q2⟩
                     have hb2 : Below wr.heap.size wr w2 := (Below.refl wr.heap.size wr).drew.trans (q2.mono (Nat.le_refl _))
                     have HS2 := hide ((cell_same (hb2.block b2 HB2L.out) _).trans HSM1.out)
                     have HK2 := hide q1
                     have HW2 := hide hb2
                     clear q1 q2 hb2)
                  | (go_at_call 21
                     refine (HCH.out _ _ cs2 HK2.out).mono ?_
                     rintro e w3 ⟨cs3, rfl, q1, q2⟩
                     have hb3 : Below wr.heap.size wr w3 := HW2.out.trans (q2.mono HW2.out.size)
                     have HS3 := hide ((cell_same (hb3.block b2 HB2L.out) _).trans HSM1.out)
                     have HK3 := hide q1
                     have HW3 := hide hb3
                     clear q1 q2 hb3)
                  | (go_at_call 19
                     refine (Put_any (HE.out.below HW3.out) HK3.out HYS.out).mono ?_
                     rintro e w4 ⟨rfl, q1, q2⟩
                     have hk4 := (Kept.of_below (S := fun k => k = b) HW3.out).trans q2 (fun _ _ h => h) (fun _ _ h => h)
                     have HS4 := hide ((cell_same (hk4.block b2 HB2L.out HB2N.out) _).trans HSM1.out)
                     have HE4 := hide (show EnvsAt w4 g b (putF F name0 y) sz3 name0 sv3 [] from q1)
                     have HK4 := hide hk4
                     clear q1 q2 hk4))
              clear HSM1 HS2 HS3 HS4 hdr
              go_wp2_with fail
              go_roundw
              case rel =>
                obtain ⟨x', hx'⟩ := putF_some (x := y) (now := name0) ⟨x, HX.out⟩
                exact ⟨i + 1, _, x', by go_num, by omega, HE4, hide hx', hide ⟨by rw [putF_other HA0.out]; exact HD.out.1, fun s h1 h2 => by rw [putF_other h1]; exact HD.out.2 s h1 h2⟩, hide (HSB.out.keep (HK4.out.mono (fun k _ h => .inr (.inl h)))), hide (HBE.out.trans (HK4.out.below (B := w.heap.size) HBE.out.size (fun k hk => by have := HB0.out; omega)))⟩
              case measure => simp [intOf]; omega
            · have jz : ¬ (i : Int) < (n3 : Int) := by omega
              go_upto_region 27 with (go_at_call 20
                                      refine (Enter_any HE.out (s := ⟨#[97]⟩) (by decide) HNA.out (by show 0 < 20; omega) (by omega)).mono ?_
                                      rintro e w5 ⟨rfl, sv5, F5, sz5, q1, q2, q3, q4⟩
                                      have HE5 := hide q1
                                      have HF5 := hide q2
                                      have HK5 := hide q3
                                      have HV5 := hide q4
                                      clear q1 q2 q3 q4)
              have hf : F5 = F := by
                rcases HF5.out with ⟨e1, -⟩ | ⟨e1, -, -⟩
                · exact e1
                · rw [HD.out.1] at e1; cases e1
              subst hf
              have HSB5 := hide (HSB.out.kept HK5.out HV5.out)
              have HBE5 := hide (HBE.out.trans (HK5.out.below (B := w.heap.size) HBE.out.size HM6.out))
              obtain ⟨hnB, cs, hbB, hKB⟩ := HSB5.out
              have HBLK := hide hbB
              have HKB := hide hKB
              have HSX := hide (HE5.out.small _ _ HD.out.1)
              have hcl : cs.toArray.size = 40 := by have : cs.length = 40 := envK.len hKB; simpa using this
              have HCL := hide hcl
              have HNO := hide (HD.out.2 ⟨#[110, 111, 110, 101]⟩ (by decide) (by decide))
              clear hnB hbB hKB hcl HE HSB HBE HK5 HV5 HF5
              have HS1 := hide (show w5.drew.heap[Bb]? = some (.cells cs.toArray 29 (0, 0)) from HBLK.out)
              refine wp_region_held_drew (S := (fun w' => w'.heap[Bb]? = some (.cells cs.toArray 29 (0, 0)))) (by kernel_rfl) HS1.out (fun hHeld => ?_)
              refine wpAnyH_take (i := 0) (v := ?_) rfl (by kernel_rfl) (by kernel_rfl) (by kernel_rfl) (fun _ _ _ h => h) (Or.inl ⟨by rfl, ?_⟩) (by assumption) ?_
              rotate_left
              · intro wq hSw
                try dsimp only at hSw
                go_simp
                try with_reducible rfl
              simp only [Act.put, List.setIfInBounds_toArray, List.set_cons_zero, List.set_cons_succ]
              refine wpAnyH_take (i := 2) (v := .agg cs.toArray) rfl (by kernel_rfl) (by kernel_rfl) (by kernel_rfl) (fun _ _ _ h => h) (yieldsIf_load_row (by rfl) 29 _ rfl Bb (by go_simp) 29 cs.toArray (0, 0) _ (fun w' h => h) Try.underlying29 rfl (by rw [size_env, HCL.out])) (by assumption) ?_
              simp only [Act.put, List.setIfInBounds_toArray, List.set_cons_zero, List.set_cons_succ]
              refine wpAnyH_ready (rs := [1]) (by kernel_rfl) (by simp) (AllReadyH.cons rfl (fun K hK => ?_) AllReadyH.nil)
              go_simp
              refine (Now_any (HE5.out.below (Below.refl w5.heap.size w5).drew) HD.out.1).mono ?_
              rintro e w2 ⟨cs2, rfl, q1, q2⟩
              have hb2 : Below w5.heap.size w5 w2 := (Below.refl w5.heap.size w5).drew.trans (q2.mono (Nat.le_refl _))
              have HS2 := hide (blk_below HBLK.out hb2 (blk_lt HBLK.out))
              have HK2 := hide q1
              have HW2 := hide hb2
              clear q1 q2 hb2
              go_wp2_with fail
              refine hK.out _ _ HS2.out (fun hHeld2 => ?_)
              clear hK K hHeld
              have hHeld := hHeld2
              clear hHeld2
              try simp only [Act.put, List.setIfInBounds_toArray, List.set_cons_zero, List.set_cons_succ]
              refine wpAnyH_ready (rs := [3]) (by kernel_rfl) (by simp) (AllReadyH.cons rfl (fun K hK => ?_) AllReadyH.nil)
              go_simp
              refine (Same_any x2 x2 cs2 cs _ _ _ HK2.out (Kind.below HKB.out HW2.out) HSX.out HSX.out).mono ?_
              rw [sameE_self]
              rintro e w3 ⟨rfl, q2⟩
              have hb3 : Below w5.heap.size w5 w3 := HW2.out.trans (q2.mono HW2.out.size)
              have HS3 := hide (blk_below HBLK.out hb3 (blk_lt HBLK.out))
              have HW3 := hide hb3
              clear q2 hb3
              go_wp2_with fail
              refine hK.out _ _ HS3.out (fun hHeld2 => ?_)
              clear hK K hHeld
              have hHeld := hHeld2
              clear hHeld2
              try simp only [Act.put, List.setIfInBounds_toArray, List.set_cons_zero, List.set_cons_succ]
              refine wpAnyH_take (i := 4) (v := ?_) rfl (by kernel_rfl) (by kernel_rfl) (by kernel_rfl) (fun _ _ _ h => h) (Or.inl ⟨by rfl, ?_⟩) (by assumption) ?_
              rotate_left
              · intro wq hSw
                try dsimp only at hSw
                go_simp
                try with_reducible rfl
              simp only [Act.put, List.setIfInBounds_toArray, List.set_cons_zero, List.set_cons_succ]
              refine wpAnyH_take (i := 5) (v := ?_) rfl (by kernel_rfl) (by kernel_rfl) (by kernel_rfl) (fun _ _ _ h => h) (Or.inl ⟨by rfl, ?_⟩) (by assumption) ?_
              rotate_left
              · intro wq hSw
                try dsimp only at hSw
                go_simp
                try with_reducible rfl
              simp only [Act.put, List.setIfInBounds_toArray, List.set_cons_zero, List.set_cons_succ]
              refine wpAnyH_ready (rs := [6]) (by kernel_rfl) (by simp) (AllReadyH.cons rfl (fun K hK => ?_) AllReadyH.nil)
              go_simp
              refine (Take_none (HE5.out.below HW3.out) (by decide) HNO.out).mono ?_
              rintro e w4 ⟨rfl, q2⟩
              have hb4 : Below w5.heap.size w5 w4 := HW3.out.trans (q2.mono HW3.out.size)
              have HS4 := hide (blk_below HBLK.out hb4 (blk_lt HBLK.out))
              have HW4 := hide hb4
              clear q2 hb4
              go_wp2_with fail
              refine hK.out _ _ HS4.out (fun hHeld2 => ?_)
              clear hK K hHeld
              have hHeld := hHeld2
              clear hHeld2
              try simp only [Act.put, List.setIfInBounds_toArray, List.set_cons_zero, List.set_cons_succ]
              refine wpAnyH_ready (rs := [7]) (by kernel_rfl) (by simp) (AllReadyH.cons rfl (fun K hK => ?_) AllReadyH.nil)
              go_simp
              refine hK.out _ _ HS4.out (fun hHeld2 => ?_)
              clear hK K hHeld
              have hHeld := hHeld2
              clear hHeld2
              try simp only [Act.put, List.setIfInBounds_toArray, List.set_cons_zero, List.set_cons_succ]
              refine wpAnyH_ready (rs := [8]) (by kernel_rfl) (by simp) (AllReadyH.cons rfl (fun K hK => ?_) AllReadyH.nil)
              go_simp
              refine hK.out _ _ HS4.out (fun hHeld2 => ?_)
              clear hK K hHeld
              have hHeld := hHeld2
              clear hHeld2
              try simp only [Act.put, List.setIfInBounds_toArray, List.set_cons_zero, List.set_cons_succ]
              refine wpAnyH_ready (rs := [9]) (by kernel_rfl) (by simp) (AllReadyH.cons rfl (fun K hK => ?_) AllReadyH.nil)
              go_simp
              refine hK.out _ _ HS4.out (fun hHeld2 => ?_)
              clear hK K hHeld
              have hHeld := hHeld2
              clear hHeld2
              try simp only [Act.put, List.setIfInBounds_toArray, List.set_cons_zero, List.set_cons_succ]
              refine wpAnyH_ready (rs := [10]) (by kernel_rfl) (by simp) (AllReadyH.cons rfl (fun K hK => ?_) AllReadyH.nil)
              go_simp
              refine (sane_any _).mono ?_
              rintro e w10 ⟨rfl, q2⟩
              have hb10 : Below w5.heap.size w5 w10 := HW4.out.trans (q2.mono HW4.out.size)
              have HS10 := hide (blk_below HBLK.out hb10 (blk_lt HBLK.out))
              have HW10 := hide hb10
              clear q2 hb10
              go_wp2_with fail
              refine hK.out _ _ HS10.out (fun hHeld2 => ?_)
              clear hK K hHeld
              have hHeld := hHeld2
              clear hHeld2
              try simp only [Act.put, List.setIfInBounds_toArray, List.set_cons_zero, List.set_cons_succ]
              refine wpAnyH_ready (rs := [11]) (by kernel_rfl) (by simp) (AllReadyH.cons rfl (fun K hK => ?_) AllReadyH.nil)
              go_simp
              refine hK.out _ _ HS10.out (fun hHeld2 => ?_)
              clear hK K hHeld
              have hHeld := hHeld2
              clear hHeld2
              try simp only [Act.put, List.setIfInBounds_toArray, List.set_cons_zero, List.set_cons_succ]
              refine wpAnyH_ready (rs := [12]) (by kernel_rfl) (by simp) (AllReadyH.cons rfl (fun K hK => ?_) AllReadyH.nil)
              go_simp
              refine hK.out _ _ HS10.out (fun hHeld2 => ?_)
              clear hK K hHeld
              have hHeld := hHeld2
              clear hHeld2
              try simp only [Act.put, List.setIfInBounds_toArray, List.set_cons_zero, List.set_cons_succ]
              clear hHeld
              refine wpAnyH_done (by kernel_rfl) ?_ _
              go_wp2_with fail
              go_ret
              exact ⟨rfl, HBE5.out.trans (HW10.out.mono HBE5.out.size)⟩
end Go.Proofs.Ytekkjieoikgpmaa
