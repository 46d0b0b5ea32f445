/- The law EnvNested: its walk. -/
import Derived.Test.YtekkjieoikgpmaaE34
import Derived.Test.YtekkjieoikgpmaaE35
set_option linter.unusedVariables false
set_option linter.unusedSimpArgs false
namespace Go.Proofs.Ytekkjieoikgpmaa
open Go.RowKit
set_option maxHeartbeats 1600000
set_option maxRecDepth 1000000
theorem load_blk {w : World} {B : Nat} {C : Array Value} (h : w.heap[B]? = some (.cells C 29 (0, 0))) (hC : C.size = 40) : (Instr.loadAt 29 (.pointer (some ⟨B, 0, none⟩))).run Try.prog w = .ok (.agg C) w := by
  simp only [Instr.loadAt, Instr.sureAddr, Sem.run_bind, Sem.run_pure, Result.andThen_ok, run_loadVar_row w B 29 29 C (0, 0) _ h Try.underlying29 rfl (by rw [size_env, hC])]
theorem saved_new {X : Nat → Prop} {wr w2 W3 : World} {g b sz : Nat} {F : ByteArray → Option EnvT} {now : ByteArray} {sv : Value} {L : List ByteArray} (hE : EnvsAt X wr g b F sz now sv L) (hb : Below wr.heap.size wr w2) {x : EnvT} {cs : List Value} (hK : envK.K w2 (fun k => wr.heap.size ≤ k) x cs)
    (hblk : W3.heap[w2.heap.size]? = some (.cells cs.toArray 29 (0, 0))) (hk : Below w2.heap.size w2 W3) : Saved W3 g b sv w2.heap.size x := by
  have hm := hE.mut_lt
  have hs := hb.size
  refine ⟨fun h => by have := hm _ h; omega, cs, hblk, envK.weaken (ok := fun k => wr.heap.size ≤ k) (fun k hk1 h => by have := hm _ h; omega) (Kind.step hK (fun k _ hk2 => hk.block k hk2))⟩
theorem nm4 (k : Nat) (h : k < 4) : nameB ((⟨#[97, 98, 99, 100]⟩ : ByteArray).extract k (k + 1)) = true ∧ (⟨#[97, 98, 99, 100]⟩ : ByteArray).extract k (k + 1) ≠ name0 ∧ ((⟨#[97, 98, 99, 100]⟩ : ByteArray).extract k (k + 1)).size ≤ 9223372036854775807 := by
  have : k = 0 ∨ k = 1 ∨ k = 2 ∨ k = 3 := by omega
  rcases this with rfl | rfl | rfl | rfl
  · exact ⟨by kernel_rfl, by decide +kernel, by decide +kernel⟩
  · exact ⟨by kernel_rfl, by decide +kernel, by decide +kernel⟩
  · exact ⟨by kernel_rfl, by decide +kernel, by decide +kernel⟩
  · exact ⟨by kernel_rfl, by decide +kernel, by decide +kernel⟩
def inI (z : Int) : Prop := -9223372036854775808 ≤ z ∧ z ≤ 9223372036854775807
theorem EnvNested_any (A1 : Option Addr) (n1 c1 : Nat) (P : List Int) (ok1 : Nat → Prop) (A2 : Option Addr) (n2 c2 : Nat) (N : List Int) (ok2 : Nat → Prop) (w : World) (hP : Kind.int.Rd w ok1 A1 n1 P) (hN : Kind.int.Rd w ok2 A2 n2 N) (hPb : ∀ z ∈ P, inI z) (hNb : ∀ z ∈ N, inI z) (hn1 : n1 ≤ 1000000000000000) :
    Calls Try.prog 4 #[.slice A1 n1 c1, .slice A2 n2 c2] w fun e w' => e = .returned (.bool true) ∧ Below w.heap.size w w' := by
  have HP := hide hP
  have HN := hide hN
  have HPB := hide hPb
  have HNB := hide hNb
  have HPL := hide hP.1
  have HNL := hide hN.1
  clear hP hN hPb hNb
  by_cases h100 : 100 < n2
  · go_enter Try.func4, Try.ntmps4
    go_wp2_with (go_at_call 9; refine (sane_any _).mono ?_; rintro e w1 ⟨rfl, q⟩; have Q := hide q; clear q)
    go_ret
    exact ⟨rfl, Q.out⟩
  go_enter Try.func4, Try.ntmps4
  go_upto_region 4 with (go_at_call 17
                         refine (New_any _).mono ?_
                         rintro e w1 ⟨g, b, rfl, q1, q2, q3, q4⟩
                         have HG := hide q1
                         have HB0 := hide q2
                         have HE1 := hide q3
                         have HBE1 := hide q4
                         clear q1 q2 q3 q4)
  go_wp2_with fail
  go_loopw [6] (fun t6 wr => ∃ (i : Nat) (F : ByteArray → Option EnvT) (x : EnvT), t6 = .int .i64 i ∧ i ≤ n2 ∧ Hid (EnvsAt (fun _ => False) wr g b F 1 name0 (.slice none 0 0) []) ∧ Hid (F name0 = some x) ∧ Hid (Below w.heap.size w wr)) (fun t6 _ => n2 - (intOf t6).toNat)
  case atStart => exact ⟨0, _, firstT, rfl, Nat.zero_le _, HE1, hide (updT_same _ _ _), HBE1⟩
  case round =>
    obtain ⟨i, F, x, rfl, hi, HE, HX, HBE⟩ := hrel
    by_cases hlt : i < n2
    · obtain ⟨z, hzx⟩ : ∃ z, N[i]? = some z := ⟨_, List.getElem?_eq_getElem (by have := HNL.out; omega)⟩
      have hz : inI z := HNB.out z (List.mem_of_getElem? hzx)
      obtain ⟨b2, o2, rfl, p0w⟩ := rd_int2 HN.out hzx
      have HB2L := hide (show b2 < wr.heap.size from Nat.lt_of_lt_of_le (cell_lt p0w) HBE.out.size)
      have HB2N := hide (show b2 ≠ b from fun e => by have := cell_lt p0w; have := HB0.out; omega)
      have p0 := cell_stays HBE.out p0w
      have jz : (i : Int) < (n2 : Int) := by omega
      clear hzx p0w
      obtain ⟨y, hys, hch⟩ := changed_any z hz x (HE.out.small _ _ HX.out)
      have HYS := hide hys
      have HCH := hide hch
      clear hys hch
      go_upto_region 7 with fail
      have hdr : Below wr.heap.size wr wr.drew := (Below.refl _ _).drew
      have HSM1 := hide (show wr.drew.cell? ⟨b2, o2 + i, none⟩ = some (.int .i64 z) from cell_stays hdr p0)
      clear p0
      go_region_held3 (fun w' => w'.cell? ⟨b2, o2 + i, none⟩ = some (.int .i64 z))
        (first | exact HSM1.out | exact HS2.out | exact HS3.out | exact HS4.out)
        (first
          | (go_at_call 18
             refine (Now_any (HE.out.below (Below.refl wr.heap.size wr).drew) HX.out).mono ?_
             rintro e w2 ⟨cs2, rfl, q1, q2⟩
             have hb2 : Below wr.heap.size wr w2 := (Below.refl wr.heap.size wr).drew.trans (q2.mono (Nat.le_refl _))
             have HS2 := hide ((cell_same (hb2.block b2 HB2L.out) _).trans HSM1.out)
             have HK2 := hide q1
             have HW2 := hide hb2
             clear q1 q2 hb2)
          | (go_at_call 21
             refine (HCH.out _ _ cs2 HK2.out).mono ?_
             rintro e w3 ⟨cs3, rfl, q1, q2⟩
             have hb3 : Below wr.heap.size wr w3 := HW2.out.trans (q2.mono HW2.out.size)
             have HS3 := hide ((cell_same (hb3.block b2 HB2L.out) _).trans HSM1.out)
             have HK3 := hide q1
             have HW3 := hide hb3
             clear q1 q2 hb3)
          | (go_at_call 19
             refine (Put_any (HE.out.below HW3.out) HK3.out HYS.out).mono ?_
             rintro e w4 ⟨rfl, q1, q2⟩
             have hk4 := (Kept.of_below (S := fun k => k = b) HW3.out).trans q2 (fun _ _ h => h) (fun _ _ h => h)
             have HS4 := hide ((cell_same (hk4.block b2 HB2L.out HB2N.out) _).trans HSM1.out)
             have HE4 := hide (show EnvsAt _ w4 g b (putF F name0 y) 1 name0 (.slice none 0 0) [] from q1)
             have HK4 := hide hk4
             clear q1 q2 hk4))
      clear HSM1 HS2 HS3 HS4 hdr
      go_wp2_with fail
      go_roundw
      case rel =>
        obtain ⟨x', hx'⟩ := putF_some (x := y) (now := name0) ⟨x, HX.out⟩
        exact ⟨i + 1, _, x', by go_num, by omega, HE4, hide hx', hide (HBE.out.trans (HK4.out.below (B := w.heap.size) HBE.out.size (fun k hk => by have := HB0.out; omega)))⟩
      case measure => simp [intOf]; omega
    · have jz : ¬ (i : Int) < (n2 : Int) := by omega
      go_upto_region 9 with (first
        | (go_at_call 18
           refine (Now_any HE.out HX.out).mono ?_
           rintro e w2 ⟨cs2, rfl, q1, q2⟩
           obtain ⟨C, hC⟩ : ∃ C, C = cs2.toArray := ⟨_, rfl⟩
           have hCl : C.size = 40 := by rw [hC]; have : cs2.length = 40 := envK.len q1; simpa using this
           have hC1 : C.all (·.oneCell') = true := by rw [hC]; exact all_oneCell_toArray (envK.one q1)
           rw [← hC]
           have HCE := hide hC
           have HCL := hide hCl
           have HC1 := hide hC1
           have HCS := hide (show (Try.prog.info? 29).map (·.size) = some C.size by rw [size_env, hCl])
           have HK2 := hide q1
           have HW2 := hide q2
           clear q1 q2 hC hCl hC1)
        | refine wpList_store_row rfl 29 _ _ rfl w2.heap.size C rfl rfl 29 _ (blk_new _ _) HCS.out (by rw [HCL.out]; rfl) HC1.out ?_)
      refine wp_setRow (blk_new _ _) ?_
      intro W3 hb3 hk3 hsz3
      have hb23 : Below w2.heap.size w2 W3 := ((Below.refl _ _).alloc (Nat.le_refl _) (.cells _ 29)).trans (hk3.below (by simp) (fun i h => by omega))
      have HSV := hide (saved_new HE.out HW2.out HK2.out (by rw [← HCE.out]; exact hb3) hb23)
      have HE3 := hide (HE.out.below (HW2.out.trans (hb23.mono HW2.out.size)))
      have HB3 := hide (HBE.out.trans ((HW2.out.trans (hb23.mono HW2.out.size)).mono HBE.out.size))
      have HM0 := hide (show ∀ k, Mut g b (.slice none 0 0) k → w.heap.size ≤ k from fun k hk => by
        rcases hk with hk | hk | hk
        · rw [hk]; exact HG.out
        · rw [hk]; exact HB0.out
        · simp [Value.ownBlock] at hk)
      clear hb3 hk3 hsz3 hb23 HE HK2 HW2 HCE HCL HC1 HCS
      generalize w2.heap.size = B at HSV ⊢
      go_wp2_with fail
      go_loopw [8, 9, 10, 11] (fun t8 t9 _ _ wr => ∃ (i d : Nat) (F : ByteArray → Option EnvT) (sz : Nat) (now : ByteArray) (sv : Value) (L : List ByteArray), t9 = .int .i64 i ∧ t8 = .int .i64 d ∧ i ≤ n1 ∧ i ≤ 30 ∧ d ≤ 20 ∧ Hid (EnvsAt (fun _ => False) wr g b F sz now sv L) ∧ Hid (L.length = d ∧ sz ≤ 1 + d ∧ bottom L now = some name0 ∧ F name0 = some x) ∧ Hid (Saved wr g b sv B x) ∧ Hid (∀ k, Mut g b sv k → w.heap.size ≤ k) ∧ Hid (Below w.heap.size w wr)) (fun _ t9 _ _ _ => n1 - (intOf t9).toNat)
      case atStart => exact ⟨0, 0, F, 1, name0, _, [], rfl, rfl, Nat.zero_le _, by omega, by omega, HE3, hide ⟨rfl, by omega, rfl, HX.out⟩, HSV, HM0, HB3⟩
      case round =>
        clear HE3 HSV HM0 HB3 HX HBE jz hlt hi
        obtain ⟨i, d, F2, sz, now, sv, L, rfl, rfl, hi1, hi30, hd, HE, HI, HSV, HM, HBE⟩ := hrel
        by_cases hgo : i < n1 ∧ i < 30
        · obtain ⟨hlt, h30⟩ := hgo
          obtain ⟨z, hzx⟩ : ∃ z, P[i]? = some z := ⟨_, List.getElem?_eq_getElem (by have := HPL.out; omega)⟩
          have hz : inI z := HPB.out z (List.mem_of_getElem? hzx)
          obtain ⟨b2, o2, rfl, p0w⟩ := rd_int2 HP.out hzx
          have HB2W := hide (show b2 < w.heap.size from cell_lt p0w)
          have HB2N := hide (show b2 ≠ b from fun e => by have := cell_lt p0w; have := HB0.out; omega)
          have p0 := cell_stays HBE.out p0w
          have HP0 := hide p0
          have j1 : (i : Int) < (n1 : Int) := by omega
          have j2 : (i : Int) < 30 := by omega
          obtain ⟨k, hk, hk4⟩ := umod z 4 (by omega)
          obtain ⟨hnm1, hnm2, hnm3⟩ := nm4 k (by omega)
          have HNM1 := hide hnm1
          have HNM2 := hide hnm2
          have HNM3 := hide hnm3
          have HZ := hide hz
          clear hzx p0w hnm1 hnm2 hnm3 hz
          by_cases hdeep : d < 20
          · have j3 : (d : Int) < 20 := by omega
            go_upto_region 19 with (go_at_call 20
                                    refine (Enter_any HE.out HNM3.out HNM1.out (by have := HI.out.1; omega) (by have := HI.out.2.1; omega)).mono ?_
                                    rintro e w5 ⟨rfl, sv2, F3, sz3, q1, q2, q3, q4⟩
                                    have HE5 := hide q1
                                    have HF5 := hide q2
                                    have HK5 := hide q3
                                    have HV5 := hide q4
                                    clear q1 q2 q3 q4 p0)
            have hz := HZ.out
            have HB2L := hide (show b2 < w5.heap.size from Nat.lt_of_lt_of_le HB2W.out (Nat.le_trans HBE.out.size HK5.out.size))
            have p0 := (cell_same (HK5.out.block b2 (Nat.lt_of_lt_of_le HB2W.out HBE.out.size) (fun h => by have := HM.out _ h; have := HB2W.out; omega)) (o2 + i)).trans HP0.out
            obtain ⟨x5, hx5⟩ := HE5.out.here
            have HX5 := hide hx5
            obtain ⟨nm, hnm⟩ : ∃ nm, nm = (⟨#[97, 98, 99, 100]⟩ : ByteArray).extract k (k + 1) := ⟨_, rfl⟩
            rw [← hnm] at HE5 HF5 HNM2 HX5
            clear hx5 hnm hk hk4
            obtain ⟨y, hys, hch⟩ := changed_any z hz x5 (HE5.out.small _ _ HX5.out)
            have HYS := hide hys
            have HCH := hide hch
            clear hys hch
            go_upto_region 19 with fail
            have hdr : Below w5.heap.size w5 w5.drew := (Below.refl _ _).drew
            have HSM1 := hide (show w5.drew.cell? ⟨b2, o2 + i, none⟩ = some (.int .i64 z) from cell_stays hdr p0)
            clear p0
            go_region_held3 (fun w' => w'.cell? ⟨b2, o2 + i, none⟩ = some (.int .i64 z))
              (first | exact HSM1.out | exact HS2.out | exact HS3.out | exact HS4.out)
              (first
                | (go_at_call 18
                   refine (Now_any (HE5.out.below (Below.refl w5.heap.size w5).drew) HX5.out).mono ?_
                   rintro e w2 ⟨cs2, rfl, q1, q2⟩
                   have hb2 : Below w5.heap.size w5 w2 := (Below.refl w5.heap.size w5).drew.trans (q2.mono (Nat.le_refl _))
                   have HS2 := hide ((cell_same (hb2.block b2 HB2L.out) _).trans HSM1.out)
                   have HK2 := hide q1
                   have HW2 := hide hb2
                   clear q1 q2 hb2)
                | (go_at_call 21
                   refine (HCH.out _ _ cs2 HK2.out).mono ?_
                   rintro e w3 ⟨cs3, rfl, q1, q2⟩
                   have hb3 : Below w5.heap.size w5 w3 := HW2.out.trans (q2.mono HW2.out.size)
                   have HS3 := hide ((cell_same (hb3.block b2 HB2L.out) _).trans HSM1.out)
                   have HK3 := hide q1
                   have HW3 := hide hb3
                   clear q1 q2 hb3)
                | (go_at_call 19
                   refine (Put_any (HE5.out.below HW3.out) HK3.out HYS.out).mono ?_
                   rintro e w4 ⟨rfl, q1, q2⟩
                   have hk4 := (Kept.of_below (S := fun k => k = b) HW3.out).trans q2 (fun _ _ h => h) (fun _ _ h => h)
                   have HS4 := hide ((cell_same (hk4.block b2 HB2L.out HB2N.out) _).trans HSM1.out)
                   have HE4 := hide (show EnvsAt _ w4 g b (putF F3 nm y) sz3 nm sv2 (L ++ [now]) from q1)
                   have HK4 := hide hk4
                   clear q1 q2 hk4))
            clear HSM1 HS2 HS3 HS4 hdr
            go_wp2_with fail
            go_roundw
            case rel =>
              have hi0 := HI.out
              have hf : F3 name0 = some x := by
                rcases HF5.out with ⟨e, -⟩ | ⟨-, e, -⟩
                · rw [e]; exact hi0.2.2.2
                · rw [e, updT_other _ _ HNM2.out.symm]; exact hi0.2.2.2
              have hsz : sz3 ≤ sz + 1 := by
                rcases HF5.out with ⟨-, e⟩ | ⟨-, -, e⟩ <;> omega
              have hm5 : ∀ k, Mut g b sv2 k → w.heap.size ≤ k := fun k hk => by
                rcases hk with hk | hk | hk
                · exact HM.out k (.inl hk)
                · exact HM.out k (.inr (.inl hk))
                · rcases HV5.out k hk with h | h
                  · exact HM.out k (.inr (.inr h))
                  · exact Nat.le_trans HBE.out.size h
              have hbe5 := HBE.out.trans (HK5.out.below (B := w.heap.size) HBE.out.size HM.out)
              exact ⟨i + 1, d + 1, _, sz3, nm, sv2, L ++ [now], by go_num, by go_num, by omega, by omega, by omega, HE4, hide ⟨by rw [List.length_append, hi0.1]; rfl, by omega, by rw [bottom_enter]; exact hi0.2.2.1, by rw [putF_other HNM2.out.symm]; exact hf⟩, hide ((HSV.out.kept HK5.out HV5.out).keep (HK4.out.mono (fun k _ h => .inr (.inl h)))), hide hm5, hide (hbe5.trans (HK4.out.below (B := w.heap.size) hbe5.size (fun k hk => by have := HB0.out; omega)))⟩
            case measure => simp [intOf]; omega
          · have j3 : ¬ (d : Int) < 20 := by omega
            go_wp2_with (go_at_call 20
                         refine (Enter_deep HE.out HNM3.out HNM1.out (by have := HI.out.1; omega)).mono ?_
                         rintro e w5 ⟨rfl, q⟩
                         have HW5 := hide q
                         clear q p0)
            go_roundw
            case rel => exact ⟨i + 1, d, F2, sz, now, sv, L, by go_num, rfl, by omega, by omega, hd, hide (HE.out.below HW5.out), HI, hide (HSV.out.keep (Kept.of_below HW5.out)), HM, hide (below_self HBE.out HW5.out)⟩
            case measure => simp [intOf]; omega
        · obtain ⟨j1, j2⟩ | j1 : ((i : Int) < (n1 : Int) ∧ ¬ (i : Int) < 30) ∨ ¬ (i : Int) < (n1 : Int) := by omega
          all_goals
            have hie : ((d : Int) != (d : Int)) = false := by simp
            clear hgo
            go_upto_if 86 with (go_at_call 22; refine (Depth_any HE.out).mono ?_; rw [HI.out.1]; rintro e w' ⟨rfl, rfl⟩)
            go_wp2_with fail
            go_loopw [8] (fun t8 wr => ∃ (d : Nat) (F : ByteArray → Option EnvT) (sz : Nat) (now : ByteArray) (sv : Value) (L : List ByteArray), t8 = .int .i64 d ∧ d ≤ 20 ∧ Hid (EnvsAt (fun _ => False) wr g b F sz now sv L) ∧ Hid (L.length = d ∧ bottom L now = some name0 ∧ F name0 = some x) ∧ Hid (Saved wr g b sv B x) ∧ Hid (∀ k, Mut g b sv k → w.heap.size ≤ k) ∧ Hid (Below w.heap.size w wr)) (fun t8 _ => (intOf t8).toNat)
            case atStart => exact ⟨d, F2, sz, now, sv, L, rfl, hd, HE, hide ⟨HI.out.1, HI.out.2.2.1, HI.out.2.2.2⟩, HSV, HM, HBE⟩
            case round =>
              clear HE HI HSV HM HBE hd hie
              obtain ⟨d, F2, sz, now, sv, L, rfl, hd, HE, HI, HSV, HM, HBE⟩ := hrel
              rcases List.eq_nil_or_concat L with h | ⟨L0, s, h⟩
              · subst h
                have hd0 : d = 0 := HI.out.1.symm
                have hnow : now = name0 := Option.some.inj HI.out.2.1
                subst hd0
                subst hnow
                have jz2 : ¬ (0 : Int) < ((0 : Nat) : Int) := by omega
                obtain ⟨hB, cs, hblk, hK⟩ := HSV.out
                have HKB := hide hK
                have HSX := hide (HE.out.small _ _ HI.out.2.2)
                have hcl : cs.toArray.size = 40 := by have : cs.length = 40 := envK.len hK; simpa using this
                have HCL := hide hcl
                have HBLK := hide hblk
                clear hB hblk hK hcl
                go_upto_region 26 with fail
                have hdr : Below wr.heap.size wr wr.drew := (Below.refl _ _).drew
                have HS1 := hide (show wr.drew.heap[B]? = some (.cells cs.toArray 29 (0, 0)) from HBLK.out)
                refine wp_region_held_drew (S := (fun w' => w'.heap[B]? = some (.cells cs.toArray 29 (0, 0)))) (by kernel_rfl) HS1.out (fun hHeld => ?_)
                refine wpAnyH_take (i := 0) (v := ?_) rfl (by kernel_rfl) (by kernel_rfl) (by kernel_rfl) (fun _ _ _ h => h) (Or.inl ⟨by rfl, ?_⟩) (by assumption) ?_
                rotate_left
                · intro wq hSw
                  try dsimp only at hSw
                  go_simp
                  try with_reducible rfl
                simp only [Act.put, List.setIfInBounds_toArray, List.set_cons_zero, List.set_cons_succ]
                refine wpAnyH_ready (rs := [1]) (by kernel_rfl) (by simp) (AllReadyH.cons rfl (fun K hK => ?_) AllReadyH.nil)
                go_simp
                refine (Leave_none (HE.out.below (Below.refl wr.heap.size wr).drew) rfl).mono ?_
                rintro e w' ⟨rfl, rfl⟩
                go_wp2_with fail
                refine hK.out _ _ HS1.out (fun hHeld2 => ?_)
                clear hK K hHeld
                have hHeld := hHeld2
                clear hHeld2
                try simp only [Act.put, List.setIfInBounds_toArray, List.set_cons_zero, List.set_cons_succ]
                refine wpAnyH_take (i := 2) (v := ?_) rfl (by kernel_rfl) (by kernel_rfl) (by kernel_rfl) (fun _ _ _ h => h) (Or.inl ⟨by rfl, ?_⟩) (by assumption) ?_
                rotate_left
                · intro wq hSw
                  try dsimp only at hSw
                  go_simp
                  try with_reducible rfl
                simp only [Act.put, List.setIfInBounds_toArray, List.set_cons_zero, List.set_cons_succ]
                refine wpAnyH_take (i := 3) (v := ?_) rfl (by kernel_rfl) (by kernel_rfl) (by kernel_rfl) (fun _ _ _ h => h) (Or.inl ⟨by rfl, ?_⟩) (by assumption) ?_
                rotate_left
                · intro wq hSw
                  try dsimp only at hSw
                  go_simp
                  try with_reducible rfl
                simp only [Act.put, List.setIfInBounds_toArray, List.set_cons_zero, List.set_cons_succ]
                refine wpAnyH_take (i := 4) (v := ?_) rfl (by kernel_rfl) (by kernel_rfl) (by kernel_rfl) (fun _ _ _ h => h) (Or.inl ⟨by rfl, ?_⟩) (by assumption) ?_
                rotate_left
                · intro wq hSw
                  try dsimp only at hSw
                  go_simp
                  try with_reducible rfl
                simp only [Act.put, List.setIfInBounds_toArray, List.set_cons_zero, List.set_cons_succ]
                refine wpAnyH_take (i := 6) (v := .agg cs.toArray) rfl (by kernel_rfl) (by kernel_rfl) (by kernel_rfl) (fun _ _ _ h => h) (yieldsIf_load_row (by rfl) 29 _ rfl B (by go_simp) 29 cs.toArray (0, 0) _ (fun w' h => h) Try.underlying29 rfl (by rw [size_env, HCL.out])) (by assumption) ?_
                simp only [Act.put, List.setIfInBounds_toArray, List.set_cons_zero, List.set_cons_succ]
                refine wpAnyH_ready (rs := [5]) (by kernel_rfl) (by simp) (AllReadyH.cons rfl (fun K hK => ?_) AllReadyH.nil)
                go_simp
                refine (Now_any (HE.out.below (Below.refl wr.heap.size wr).drew) HI.out.2.2).mono ?_
                rintro e w2 ⟨cs2, rfl, q1, q2⟩
                have hb2 : Below wr.heap.size wr w2 := (Below.refl wr.heap.size wr).drew.trans (q2.mono (Nat.le_refl _))
                have HS2 := hide (blk_below HBLK.out hb2 (blk_lt HBLK.out))
                have HK2 := hide q1
                have HW2 := hide hb2
                clear q1 q2 hb2
                go_wp2_with fail
                refine hK.out _ _ HS2.out (fun hHeld2 => ?_)
                clear hK K hHeld
                have hHeld := hHeld2
                clear hHeld2
                try simp only [Act.put, List.setIfInBounds_toArray, List.set_cons_zero, List.set_cons_succ]
                refine wpAnyH_ready (rs := [7]) (by kernel_rfl) (by simp) (AllReadyH.cons rfl (fun K hK => ?_) AllReadyH.nil)
                go_simp
                refine (Same_any x x cs2 cs _ _ _ HK2.out (Kind.below HKB.out HW2.out) HSX.out HSX.out).mono ?_
                rw [sameE_self]
                rintro e w3 ⟨rfl, q2⟩
                have hb3 : Below wr.heap.size wr w3 := HW2.out.trans (q2.mono HW2.out.size)
                have HS3 := hide (blk_below HBLK.out hb3 (blk_lt HBLK.out))
                have HW3 := hide hb3
                clear q2 hb3
                go_wp2_with fail
                refine hK.out _ _ HS3.out (fun hHeld2 => ?_)
                clear hK K hHeld
                have hHeld := hHeld2
                clear hHeld2
                try simp only [Act.put, List.setIfInBounds_toArray, List.set_cons_zero, List.set_cons_succ]
                refine wpAnyH_take (i := 8) (v := ?_) rfl (by kernel_rfl) (by kernel_rfl) (by kernel_rfl) (fun _ _ _ h => h) (Or.inl ⟨by rfl, ?_⟩) (by assumption) ?_
                rotate_left
                · intro wq hSw
                  try dsimp only at hSw
                  go_simp
                  try with_reducible rfl
                simp only [Act.put, List.setIfInBounds_toArray, List.set_cons_zero, List.set_cons_succ]
                refine wpAnyH_take (i := 9) (v := ?_) rfl (by kernel_rfl) (by kernel_rfl) (by kernel_rfl) (fun _ _ _ h => h) (Or.inl ⟨by rfl, ?_⟩) (by assumption) ?_
                rotate_left
                · intro wq hSw
                  try dsimp only at hSw
                  go_simp
                  try with_reducible rfl
                simp only [Act.put, List.setIfInBounds_toArray, List.set_cons_zero, List.set_cons_succ]
                refine wpAnyH_ready (rs := [10]) (by kernel_rfl) (by simp) (AllReadyH.cons rfl (fun K hK => ?_) AllReadyH.nil)
                go_simp
                refine (sane_any _).mono ?_
                rintro e w4 ⟨rfl, q2⟩
                have hb4 : Below wr.heap.size wr w4 := HW3.out.trans (q2.mono HW3.out.size)
                have HS4 := hide (blk_below HBLK.out hb4 (blk_lt HBLK.out))
                have HW4 := hide hb4
                clear q2 hb4
                go_wp2_with fail
                refine hK.out _ _ HS4.out (fun hHeld2 => ?_)
                clear hK K hHeld
                have hHeld := hHeld2
                clear hHeld2
                try simp only [Act.put, List.setIfInBounds_toArray, List.set_cons_zero, List.set_cons_succ]
                refine wpAnyH_ready (rs := [11]) (by kernel_rfl) (by simp) (AllReadyH.cons rfl (fun K hK => ?_) AllReadyH.nil)
                go_simp
                refine hK.out _ _ HS4.out (fun hHeld2 => ?_)
                clear hK K hHeld
                have hHeld := hHeld2
                clear hHeld2
                try simp only [Act.put, List.setIfInBounds_toArray, List.set_cons_zero, List.set_cons_succ]
                refine wpAnyH_ready (rs := [12]) (by kernel_rfl) (by simp) (AllReadyH.cons rfl (fun K hK => ?_) AllReadyH.nil)
                go_simp
                refine hK.out _ _ HS4.out (fun hHeld2 => ?_)
                clear hK K hHeld
                have hHeld := hHeld2
                clear hHeld2
                try simp only [Act.put, List.setIfInBounds_toArray, List.set_cons_zero, List.set_cons_succ]
                clear hHeld
                refine wpAnyH_done (by kernel_rfl) ?_ _
                go_wp2_with fail
                go_ret
                exact ⟨rfl, below_self HBE.out HW4.out⟩
              · rw [List.concat_eq_append] at h
                subst h
                obtain ⟨d', hd'⟩ : ∃ d', d = d' + 1 := ⟨L0.length, by rw [← HI.out.1, List.length_append]; rfl⟩
                subst hd'
                have hpos : (0 : Int) < ((d' + 1 : Nat) : Int) := by omega
                go_wp2_with (go_at_call 23
                             refine (Leave_some HE.out).mono ?_
                             rintro e w5 ⟨rfl, sv2, q1, q2, q3⟩
                             have HE5 := hide q1
                             have HK5 := hide q2
                             have HV5 := hide q3
                             clear q1 q2 q3)
                go_roundw
                case rel =>
                  have hi0 := HI.out
                  have hl : L0.length = d' := by have := hi0.1; rw [List.length_append, List.length_singleton] at this; omega
                  have hm5 : ∀ k, Mut g b sv2 k → w.heap.size ≤ k := fun k hk => by
                    rcases hk with hk | hk | hk
                    · exact HM.out k (.inl hk)
                    · exact HM.out k (.inr (.inl hk))
                    · rcases HV5.out k hk with h | h
                      · exact HM.out k (.inr (.inr h))
                      · exact Nat.le_trans HBE.out.size h
                  exact ⟨d', F2, sz, s, sv2, L0, by go_num, by omega, HE5, hide ⟨hl, by rw [← bottom_enter L0 s now]; exact hi0.2.1, hi0.2.2⟩, hide (HSV.out.kept HK5.out HV5.out), hide hm5, hide (HBE.out.trans (HK5.out.below (B := w.heap.size) HBE.out.size HM.out))⟩
                case measure => simp [intOf]
end Go.Proofs.Ytekkjieoikgpmaa
