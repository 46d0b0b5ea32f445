import Derived.Maps.OwnSet
import Derived.Test.YteadghhmoggjnaaFM7
set_option linter.unusedVariables false
set_option linter.unusedSimpArgs false
section
section
namespace Go.Proofs.YteadghhmoggjnaaB
open Go.RowKit
open Yteadghhmoggjnaa.Q (S33 k33 z33 k33_open k33_mk k33_mkM k33_openF)
open YteadghhmoggjnaaW.PrintWords (Kd ReadsRow)
set_option maxHeartbeats 1600000
set_option maxRecDepth 1000000
def lastB (l : List S33) (i : Nat) : Bool := match l[i]? with
 | some x => spaceB x && (match l[i + 1]? with
  | some y => !(spaceB y)
  | none => true)
 | none => false
def grw (l : List S33) (i : Nat) : Bool := lastB l i && (!(noneB solidG (l.take i)) && !(noneB solidG (l.drop (i + 1))))
def growTo (l : List S33) (k : Nat) : List Int := ((List.range k).filter (grw l)).map fun (i : Nat) => (i : Int)
def growL (l : List S33) : List Int := growTo l l.length
theorem growTo_len (l : List S33) (k : Nat) : (growTo l k).length ≤ k := by
 unfold growTo
 rw [List.length_map]
 exact Nat.le_trans (List.length_filter_le _ _) (by simp)
theorem growTo_yes {l : List S33} {k : Nat} (h : grw l k = true) : growTo l (k + 1) = growTo l k ++ [(k : Int)] := by
 unfold growTo
 rw [List.range_succ, List.filter_append, List.map_append]
 simp [h]
theorem growTo_no {l : List S33} {k : Nat} (h : grw l k = false) : growTo l (k + 1) = growTo l k := by
 unfold growTo
 rw [List.range_succ, List.filter_append, List.map_append]
 simp [h]
theorem lastB_no {l : List S33} {k : Nat} {x : S33} (h : l[k]? = some x) (hx : spaceB x = false) : lastB l k = false := by
 unfold lastB
 rw [h]
 simp [hx]
theorem lastB_end {l : List S33} {k : Nat} {x : S33} (h : l[k]? = some x) (hx : spaceB x = true) (hn : l.length = k + 1) : lastB l k = true := by
 unfold lastB
 rw [h, List.getElem?_eq_none (by omega)]
 simp [hx]
theorem lastB_mid {l : List S33} {k : Nat} {x y : S33} (h : l[k]? = some x) (hx : spaceB x = true) (hy : l[k + 1]? = some y) : lastB l k = !(spaceB y) := by
 unfold lastB
 rw [h, hy]
 simp [hx]
theorem growing_any (A : Option Addr) (n c : Nat) (l : List S33) (ok : Nat → Prop) (w : World) (hr : boxK.Rd w ok A n l) (hc : n ≤ c) (hn : n ≤ 1000000000000) (hlen : ∀ x ∈ l, x.f6.length ≤ 9223372036854775807) :
    Calls Try.prog 34 #[.slice A n c] w fun e w' => ∃ v, e = .returned v ∧ Kind.int.Own 3 w' (fun _ => False) w.heap.size v (growL l) ∧ Below w.heap.size w w' := by
  have HR := hide hr
  have hln : l.length = n := hr.1
  have HLN := hide hln
  have HLEN := hide hlen
  clear hr hln hlen
  go_enter Try.func34, Try.ntmps34
  go_wp2_with fail
  go_loopw [5, 6, 7, 8, 11] (fun t5 _ _ _ t11 wr => ∃ (k : Nat) (v5 : Value), t11 = .int .i64 k ∧ v5 = t5 ∧ k ≤ n ∧ Hid (Kind.int.Own 3 wr (fun _ => False) w.heap.size v5 (growTo l k)) ∧ Hid (Below w.heap.size w wr)) (fun _ _ _ _ t11 _ => n - (intOf t11).toNat)
  case atStart => exact ⟨0, _, rfl, rfl, Nat.zero_le _, hide (Kind.Own.nil Kind.int _ _ _ _), hide (Below.refl _ _)⟩
  case round =>
    obtain ⟨k, v5, rfl, rfl, hk, HO, HB⟩ := hrel
    by_cases hlt : k < n
    · obtain ⟨x, hx⟩ : ∃ x, l[k]? = some x := ⟨_, List.getElem?_eq_getElem (by have := HLN.out; omega)⟩
      obtain ⟨b, off, A5, c5, rfl, hr5, -, -, z0, z1, z2, z3, z4, z5, z6⟩ := box_cells (HR.out.below HB.out) hx
      have HR5 := hide (hr5.weaken (ok' := fun _ => True) (fun _ _ => trivial))
      have HL5 := hide (HLEN.out x (List.mem_of_getElem? hx))
      have HX := hide hx
      have hs1 := fun W => slice_high W (some ⟨b, off, none⟩) n c k (by omega)
      have hs2 := fun W => slice_low1 W (some ⟨b, off, none⟩) n c k (by omega)
      clear hx hr5
      go_upto_region 7 with fail
      have hba := below_a (w := wr) (.cells #[.int .i64 x.f0, .int .i64 x.f1, .int .i64 x.f2, .int .i64 x.f3, .string x.f4, .string x.f5, .slice A5 x.f6.length c5] 33)
      have hbx := below_self HB.out hba
      have hox := HO.out.below hba
      have hcx := blk_new wr (.cells #[.int .i64 x.f0, .int .i64 x.f1, .int .i64 x.f2, .int .i64 x.f3, .string x.f4, .string x.f5, .slice A5 x.f6.length c5] 33)
      obtain ⟨gb, hgb⟩ : ∃ gb, gb = wr.heap.size := ⟨_, rfl⟩
      generalize (wr.alloc (.cells #[.int .i64 x.f0, .int .i64 x.f1, .int .i64 x.f2, .int .i64 x.f3, .string x.f4, .string x.f5, .slice A5 x.f6.length c5] 33)) = w1 at hbx hox hcx hba ⊢
      rw [← hgb] at hcx ⊢
      have y0 : w1.cell? ⟨gb, 0, none⟩ = some (.int .i64 x.f0) := by rw [blk_cell hcx]; rfl
      have y1 : w1.cell? ⟨gb, 1, none⟩ = some (.int .i64 x.f1) := by rw [blk_cell hcx]; rfl
      have y2 : w1.cell? ⟨gb, 2, none⟩ = some (.int .i64 x.f2) := by rw [blk_cell hcx]; rfl
      have y3 : w1.cell? ⟨gb, 3, none⟩ = some (.int .i64 x.f3) := by rw [blk_cell hcx]; rfl
      have y4 : w1.cell? ⟨gb, 4, none⟩ = some (.string x.f4) := by rw [blk_cell hcx]; rfl
      have y5 : w1.cell? ⟨gb, 5, none⟩ = some (.string x.f5) := by rw [blk_cell hcx]; rfl
      have y6 : w1.cell? ⟨gb, 6, none⟩ = some (.slice A5 x.f6.length c5) := by rw [blk_cell hcx]; rfl
      have HRX := hide (HR5.out.below hba)
      have HBX := hide hbx
      have HOX := hide hox
      clear hbx hox hba hcx hgb z0 z1 z2 z3 z4 z5 z6
      go_cut [8] (fun t8 wx => ∃ lb : Bool, t8 = .bool lb ∧ Hid (lastB l k = lb) ∧ Hid (Below w1.heap.size w1 wx))
      case first =>
        cases hsx : spaceB x with
        | false =>
          have HS := hide hsx
          clear hsx
          go_wp2_with (go_at_call 60; refine (spaceB_tests x A5 c5 _ HRX.out HL5.out).mono ?_; rw [HS.out]; rintro e w2 ⟨rfl, q⟩; have Q := hide q; clear q)
          go_meet
          exact ⟨false, rfl, hide (lastB_no HX.out HS.out), Q⟩
        | true =>
          have HS := hide hsx
          clear hsx
          by_cases hkn : n = k + 1
          · have hkz : ((k : Int) + 1 == (n : Int)) = true := by simp; omega
            have HKN := hide hkn
            clear hkn
            go_wp2_with (go_at_call 60; refine (spaceB_tests x A5 c5 _ HRX.out HL5.out).mono ?_; rw [HS.out]; rintro e w2 ⟨rfl, q⟩; have Q := hide q; clear q)
            go_meet
            exact ⟨true, rfl, hide (lastB_end HX.out HS.out (by rw [HLN.out, HKN.out])), Q⟩
          · have hkz : ((k : Int) + 1 == (n : Int)) = false := by rw [beq_eq_false_iff_ne]; omega
            obtain ⟨y, hy⟩ : ∃ y, l[k + 1]? = some y := ⟨_, List.getElem?_eq_getElem (by have := HLN.out; omega)⟩
            have HY := hide hy
            have HLY := hide (HLEN.out y (List.mem_of_getElem? hy))
            have jlt : (k : Int) + 1 < (n : Int) := by omega
            clear hy hkn
            cases hsy : spaceB y with
            | false =>
              have HSY := hide hsy
              clear hsy
              go_wp2_with (first
                | (go_at_call 60
                   refine (spaceB_tests x A5 c5 _ HRX.out HL5.out).mono ?_
                   rw [HS.out]
                   rintro e w2 ⟨rfl, q⟩
                   obtain ⟨b2, off2, A6, c6, e2, hr6, -, -, v0, v1, v2, v3, v4, v5, v6⟩ := box_cells (HR.out.below (below_self HBX.out q)) HY.out
                   cases e2
                   rw [show off + (k + 1) * 7 = off + (k + 1) * 7 from rfl] at v0 v1 v2 v3 v4 v5 v6
                   have HRY := hide (hr6.weaken (ok' := fun _ => True) (fun _ _ => trivial))
                   have Q := hide q
                   clear q hr6)
                | (go_at_call 60
                   refine (spaceB_tests y A6 c6 _ HRY.out HLY.out).mono ?_
                   rw [HSY.out]
                   rintro e w3 ⟨rfl, q⟩
                   have Q2 := hide (below_self Q.out q)
                   clear q))
              go_meet
              exact ⟨true, rfl, hide (by rw [lastB_mid HX.out HS.out HY.out, HSY.out]; rfl), Q2⟩
            | true =>
              have HSY := hide hsy
              clear hsy
              go_wp2_with (first
                | (go_at_call 60
                   refine (spaceB_tests x A5 c5 _ HRX.out HL5.out).mono ?_
                   rw [HS.out]
                   rintro e w2 ⟨rfl, q⟩
                   obtain ⟨b2, off2, A6, c6, e2, hr6, -, -, v0, v1, v2, v3, v4, v5, v6⟩ := box_cells (HR.out.below (below_self HBX.out q)) HY.out
                   cases e2
                   have HRY := hide (hr6.weaken (ok' := fun _ => True) (fun _ _ => trivial))
                   have Q := hide q
                   clear q hr6)
                | (go_at_call 60
                   refine (spaceB_tests y A6 c6 _ HRY.out HLY.out).mono ?_
                   rw [HSY.out]
                   rintro e w3 ⟨rfl, q⟩
                   have Q2 := hide (below_self Q.out q)
                   clear q))
              go_meet
              exact ⟨false, rfl, hide (by rw [lastB_mid HX.out HS.out HY.out, HSY.out]; rfl), Q2⟩
      case rest =>
      obtain ⟨lb, rfl, HLB, HBC⟩ := hcut
      have HBY := hide (below_self HBX.out HBC.out)
      have HOY := hide (HOX.out.below HBC.out)
      clear y0 y1 y2 y3 y4 y5 y6
      cases lb with
      | false =>
        have HNO := hide (growTo_no (l := l) (k := k) (by unfold grw; rw [HLB.out]; rfl))
        go_wp2_with fail
        go_roundw
        case rel => exact ⟨k + 1, v5, by go_num, rfl, by omega, by rw [HNO.out]; exact HOY, HBY⟩
        case measure => simp [intOf]; omega
      | true =>
        cases ha : noneB solidG (l.take k) with
        | true =>
          have HNO := hide (growTo_no (l := l) (k := k) (by unfold grw; rw [ha]; simp))
          have HA := hide ha
          clear ha
          go_wp2_with (go_at_call 53; refine (ContainsFunc_box solidG 61 (fun _ _ => rfl) solidG_tests (some ⟨b, off, none⟩) k c (l.take k) ok _ (rd_high (HR.out.below HBY.out) (by omega)) (by omega) (lens_take HLEN.out k)).mono ?_; rw [HA.out]; rintro e w2 ⟨rfl, q⟩; have Q := hide q; clear q)
          go_roundw
          case rel => exact ⟨k + 1, v5, by go_num, rfl, by omega, by rw [HNO.out]; exact hide (HOY.out.below Q.out), hide (below_self HBY.out Q.out)⟩
          case measure => simp [intOf]; omega
        | false =>
          have HA := hide ha
          clear ha
          cases hd : noneB solidG (l.drop (k + 1)) with
          | true =>
            have HNO := hide (growTo_no (l := l) (k := k) (by unfold grw; rw [hd]; simp))
            have HD := hide hd
            clear hd
            go_wp2_with (first
              | (go_at_call 53
                 refine (ContainsFunc_box solidG 61 (fun _ _ => rfl) solidG_tests (some ⟨b, off, none⟩) k c (l.take k) ok _ (rd_high (HR.out.below HBY.out) (by omega)) (by omega) (lens_take HLEN.out k)).mono ?_
                 rw [HA.out]
                 rintro e w2 ⟨rfl, q⟩
                 have Q := hide (below_self HBY.out q)
                 have Q0 := hide q
                 clear q)
              | (go_at_call 53
                 refine (ContainsFunc_box solidG 61 (fun _ _ => rfl) solidG_tests (cutA (some ⟨b, off, none⟩) c (k + 1)) (n - (k + 1)) (c - (k + 1)) (l.drop (k + 1)) ok _ (rd_low (HR.out.below Q.out) (by omega) hc) (by omega) (lens_drop HLEN.out (k + 1))).mono ?_
                 rw [HD.out]
                 rintro e w3 ⟨rfl, q⟩
                 have Q2 := hide (below_self Q.out q)
                 have Q3 := hide (below_self Q0.out q)
                 clear q))
            go_roundw
            case rel => exact ⟨k + 1, v5, by go_num, rfl, by omega, by rw [HNO.out]; exact hide (HOY.out.below Q3.out), Q2⟩
            case measure => simp [intOf]; omega
          | false =>
            have HYES := hide (growTo_yes (l := l) (k := k) (by unfold grw; rw [HLB.out, HA.out, hd]; rfl))
            have HD := hide hd
            clear hd
            have hpl := growTo_len l k
            have HPL := hide hpl
            clear hpl
            go_upto_region 9 with (first
              | (go_at_call 53
                 refine (ContainsFunc_box solidG 61 (fun _ _ => rfl) solidG_tests (some ⟨b, off, none⟩) k c (l.take k) ok _ (rd_high (HR.out.below HBY.out) (by omega)) (by omega) (lens_take HLEN.out k)).mono ?_
                 rw [HA.out]
                 rintro e w2 ⟨rfl, q⟩
                 have Q := hide (below_self HBY.out q)
                 have Q0 := hide q
                 clear q)
              | (go_at_call 53
                 refine (ContainsFunc_box solidG 61 (fun _ _ => rfl) solidG_tests (cutA (some ⟨b, off, none⟩) c (k + 1)) (n - (k + 1)) (c - (k + 1)) (l.drop (k + 1)) ok _ (rd_low (HR.out.below Q.out) (by omega) hc) (by omega) (lens_drop HLEN.out (k + 1))).mono ?_
                 rw [HD.out]
                 rintro e w3 ⟨rfl, q⟩
                 have Q2 := hide (below_self Q.out q)
                 have Q3 := hide (below_self Q0.out q)
                 clear q))
            have HO3 := hide (HOY.out.below Q3.out)
            go_wp2_with (at_builtin
                         refine wpList_append_one (ok := fun _ => False) (base := w.heap.size) w3 Kind.int rfl _ _ 22 rfl 3 _ 8 Try.underlying22 info_int rfl (by decide) (by decide) v5 (growTo l k) rfl HO3.out (k : Int) [.int .i64 (k : Int)] rfl rfl (fun _ h => h.elim) (by have := HPL.out; omega) Q2.out.size ?_
                         intro v9 w4 q1 q2 q3
                         have HO4 := hide q1
                         have HB4 := hide (Q2.out.grown q2 Q2.out.size (fun j hj => (HO3.out.lt j hj).1))
                         clear q1 q2 q3)
            go_roundw
            case rel => exact ⟨k + 1, v9, by go_num, rfl, by omega, by rw [HYES.out]; exact HO4, HB4⟩
            case measure => simp [intOf]; omega
    · have hk2 : k = n := by omega
      have ho := HO.out
      rw [hk2, ← HLN.out] at ho
      have HOF := hide ho
      clear ho hk2
      go_wp2_with fail
      go_ret
      exact ⟨_, rfl, HOF.out, HB.out⟩
end Go.Proofs.YteadghhmoggjnaaB
end
section
namespace Go.Proofs.YteadghhmoggjnaaB
open Go.RowKit
open Yteadghhmoggjnaa.Q (S33 k33 z33 k33_open k33_mk k33_mkM k33_openF)
open YteadghhmoggjnaaW.PrintWords (Kd ReadsRow)
set_option maxHeartbeats 1600000
set_option maxRecDepth 1000000
def counts (x : S33) : Bool := (x.f0 == 0) || (x.f0 == 1) || (x.f0 == 2) || (x.f0 == 4) || (x.f0 == 6)
def widthStep (n : Int) (x : S33) : Int := if counts x = true then wrap64 (n + x.f1) else n
def widthW (l : List S33) : Int := l.foldl widthStep 0
theorem width_snoc {l : List S33} {k : Nat} {x : S33} (h : l[k]? = some x) : widthW (l.take (k + 1)) = widthStep (widthW (l.take k)) x := by
 obtain ⟨hk, rfl⟩ := List.getElem?_eq_some_iff.1 h
 unfold widthW
 rw [List.take_succ_eq_append_getElem hk, List.foldl_append]
 rfl
theorem width_yes {l : List S33} {k : Nat} {x : S33} (h : l[k]? = some x) (hc : counts x = true) : widthW (l.take (k + 1)) = wrap64 (widthW (l.take k) + x.f1) := by
 rw [width_snoc h]; unfold widthStep; rw [if_pos hc]
theorem width_no {l : List S33} {k : Nat} {x : S33} (h : l[k]? = some x) (hc : counts x = false) : widthW (l.take (k + 1)) = widthW (l.take k) := by
 rw [width_snoc h]; unfold widthStep; rw [hc]; rfl
theorem Width_any (A : Option Addr) (n c : Nat) (l : List S33) (ok : Nat → Prop) (w : World) (hr : boxK.Rd w ok A n l) (hn : n ≤ 9223372036854775807) :
  Calls Try.prog 33 #[.slice A n c] w fun e w' => e = .returned (.int .i64 (widthW l)) ∧ Below w.heap.size w w' := by
 have HR := hide hr
 have hln : l.length = n := hr.1
 have HLN := hide hln
 clear hr hln
 go_enter Try.func33, Try.ntmps33
 go_wp2_with fail
 go_loopw [3, 5, 8, 14] (fun t3 _ t8 _ wr => ∃ (k : Nat) (v : Int), t8 = .int .i64 k ∧ t3 = .int .i64 v ∧ k ≤ n ∧ Hid (widthW (l.take k) = v) ∧ Hid (Below w.heap.size w wr)) (fun _ _ t8 _ _ => n - (intOf t8).toNat)
 case atStart => exact ⟨0, 0, rfl, rfl, Nat.zero_le _, hide rfl, hide (Below.refl _ _)⟩
 case round =>
  obtain ⟨k, v, rfl, rfl, hk, HV, HB⟩ := hrel
  by_cases hlt : k < n
  ·obtain ⟨x, hx⟩ : ∃ x, l[k]? = some x := ⟨_, List.getElem?_eq_getElem (by have := HLN.out; omega)⟩
   obtain ⟨b, off, A5, c5, rfl, -, -, -, z0, z1, z2, z3, z4, z5, z6⟩ := box_cells (HR.out.below HB.out) hx
   have HY := hide (fun h => width_yes (l := l) hx h)
   have HN := hide (fun h => width_no (l := l) hx h)
   have HC : Hid (counts x = ((x.f0 == 0) || (x.f0 == 1) || (x.f0 == 2) || (x.f0 == 4) || (x.f0 == 6))) := hide rfl
   clear hx
   go_upto_region 5 with fail
   have hba := below_a (w := wr) (.cells #[.int .i64 x.f0, .int .i64 x.f1, .int .i64 x.f2, .int .i64 x.f3, .string x.f4, .string x.f5, .slice A5 x.f6.length c5] 33)
   have hbx := below_self HB.out hba
   have hcx := blk_new wr (.cells #[.int .i64 x.f0, .int .i64 x.f1, .int .i64 x.f2, .int .i64 x.f3, .string x.f4, .string x.f5, .slice A5 x.f6.length c5] 33)
   obtain ⟨gb, hgb⟩ : ∃ gb, gb = wr.heap.size := ⟨_, rfl⟩
   generalize (wr.alloc (.cells #[.int .i64 x.f0, .int .i64 x.f1, .int .i64 x.f2, .int .i64 x.f3, .string x.f4, .string x.f5, .slice A5 x.f6.length c5] 33)) = w1 at hbx hcx hba ⊢
   rw [← hgb] at hcx ⊢
   have y0 : w1.cell? ⟨gb, 0, none⟩ = some (.int .i64 x.f0) := by rw [blk_cell hcx]; rfl
   have y1 : w1.cell? ⟨gb, 1, none⟩ = some (.int .i64 x.f1) := by rw [blk_cell hcx]; rfl
   have HBX := hide hbx
   clear hba hbx hcx hgb z0 z1 z2 z3 z4 z5 z6
   generalize x.f1 = wd at y1 HY
   generalize x.f0 = kd at y0 HC
   by_cases h0 : kd = 0
   ·subst h0
    go_wp2_with fail
    go_roundw
    case rel => exact ⟨k + 1, _, by go_num, rfl, by omega, hide (by rw [HY.out (by rw [HC.out]; rfl), HV.out]), HBX⟩
    case measure => simp [intOf]; omega
   by_cases h1 : kd = 1
   ·subst h1
    go_wp2_with fail
    go_roundw
    case rel => exact ⟨k + 1, _, by go_num, rfl, by omega, hide (by rw [HY.out (by rw [HC.out]; rfl), HV.out]), HBX⟩
    case measure => simp [intOf]; omega
   by_cases h2 : kd = 2
   ·subst h2
    go_wp2_with fail
    go_roundw
    case rel => exact ⟨k + 1, _, by go_num, rfl, by omega, hide (by rw [HY.out (by rw [HC.out]; rfl), HV.out]), HBX⟩
    case measure => simp [intOf]; omega
   by_cases h4 : kd = 4
   ·subst h4
    go_wp2_with fail
    go_roundw
    case rel => exact ⟨k + 1, _, by go_num, rfl, by omega, hide (by rw [HY.out (by rw [HC.out]; rfl), HV.out]), HBX⟩
    case measure => simp [intOf]; omega
   by_cases h6 : kd = 6
   ·subst h6
    go_wp2_with fail
    go_roundw
    case rel => exact ⟨k + 1, _, by go_num, rfl, by omega, hide (by rw [HY.out (by rw [HC.out]; rfl), HV.out]), HBX⟩
    case measure => simp [intOf]; omega
   have HNC := hide (HN.out (by rw [HC.out]; simp [h0, h1, h2, h4, h6]))
   go_wp2_with fail
   go_roundw
   case rel => exact ⟨k + 1, v, by go_num, rfl, by omega, hide (by rw [HNC.out, HV.out]), HBX⟩
   case measure => simp [intOf]; omega
  ·have hv := HV.out
   rw [List.take_of_length_le (by have := HLN.out; omega)] at hv
   have HVF := hide hv
   clear hv
   go_wp2_with fail
   go_ret
   exact ⟨ret_int HVF.out.symm, HB.out⟩
def Owned (w : World) (base : Nat) (v : Value) (l : List S33) : Prop :=
 (l = [] ∧ ∃ A c, v = .slice A 0 c ∧ Kd.S k33 33 w base (fun _ => True) v []) ∨
 ∃ g c I n, v = .slice (some ⟨g, 0, none⟩) l.length c ∧ 0 < l.length ∧ base ≤ g ∧ l.length ≤ c ∧ (markK base).RowAt 33 w (fun k => k ≠ g) g c (marks l I) ∧ I.length = l.length ∧ Chain I n
theorem Owned.S {w : World} {base : Nat} {v : Value} {l : List S33} (h : Owned w base v l) : Kd.S k33 33 w base (fun _ => True) v l := by
 rcases h with ⟨rfl, A, c, -, h⟩ | ⟨g, c, I, n, rfl, -, hg, -, hr, hI, hc⟩
 ·exact h
 ·exact own_S hr hI hc hg
theorem marks_rd {w : World} {base g c : Nat} {l : List S33} {I : List (Nat × Nat)} {ok : Nat → Prop} (h : (markK base).RowAt 33 w ok g c (marks l I)) (hI : I.length = l.length) : boxK.Rd w (fun _ => True) (some ⟨g, 0, none⟩) l.length l := by
 refine ⟨rfl, fun hp => ⟨g, 0, rfl, trivial, h.lt, fun i x hx => ?_⟩⟩
 obtain ⟨q, hq, hm⟩ := marks_all hI hx
 obtain ⟨cs, hcs, hcell⟩ := h.cells' hm
 rcases hcs with ⟨h0, -⟩ | ⟨p, v, h0, rfl, -, h2, h3⟩
 ·cases h0
 ·obtain ⟨A9, c9, e9, h1, -, -, -, h5⟩ := h2.form
  subst e9
  refine ⟨_, ⟨A9, c9, rfl, h1, h5.weaken (fun _ _ => trivial)⟩, fun j u hu => ?_⟩
  have := hcell j u hu
  rw [Nat.zero_add]
  exact this
theorem Owned.rd {w : World} {base : Nat} {v : Value} {l : List S33} (h : Owned w base v l) : ∃ A c, v = .slice A l.length c ∧ l.length ≤ c ∧ boxK.Rd w (fun _ => True) A l.length l := by
 rcases h with ⟨rfl, A, c, rfl, h⟩ | ⟨g, c, I, n, rfl, -, hg, hlc, hr, hI, hc⟩
 ·exact ⟨A, c, rfl, Nat.zero_le _, Kind.Rd.nil _ _ _ _⟩
 ·exact ⟨_, c, rfl, hlc, marks_rd hr hI⟩
theorem Owned.below {w w' : World} {base : Nat} {v : Value} {l : List S33} (h : Owned w base v l) (hb : Below w.heap.size w w') : Owned w' base v l := by
 rcases h with ⟨rfl, A, c, rfl, h⟩ | ⟨g, c, I, n, rfl, hp, hg, hlc, hr, hI, hc⟩
 ·exact .inl ⟨rfl, A, c, rfl, YteadghhmoggjnaaW.PrintWords.Kd.S_below h hb⟩
 ·exact .inr ⟨g, c, I, n, rfl, hp, hg, hlc, hr.below hb, hI, hc⟩
theorem own_row (A : Option Addr) (n c : Nat) (l : List S33) (ok : Nat → Prop) (w : World) (hr : boxK.Rd w ok A n l) (hn : n ≤ 1000000000000) (hsz : ∀ y ∈ l, y.f6.length ≤ 17592186044416) :
    Calls Try.prog 32 #[.slice A n c] w fun e w' => ∃ v, e = .returned v ∧ Owned w' w.heap.size v l ∧ Below w.heap.size w w' := by
  have HR := hide hr
  have HSZ := hide hsz
  have hm : maxLen = 9223372036854775807 := rfl
  have HM := hide hm
  clear hr hsz hm
  go_enter Try.func32, Try.ntmps32
  go_upto_region 2 with (go_at_call 58; refine (Clone_box A n c l ok _ HR.out hn).mono ?_; rintro e w1 ⟨v1, rfl, q1, q2⟩; obtain ⟨A1, c1, rfl, hl1, -, -, -, -⟩ := Kind.Own.form q1; have HL1 := hide hl1; have HO1 := hide q1; have Q2 := hide q2; clear q1 q2 hl1)
  have hln : l.length ≤ 1000000000000 := by have := HR.out.1; omega
  have HLN := hide hln
  rcases Nat.eq_zero_or_pos l.length with h0 | h0
  · have hl : l = [] := List.eq_nil_of_length_eq_zero h0
    subst hl
    clear h0 hln
    go_wp2_with fail
    go_loopw [4, 9] (fun _ t9 wr => t9 = .int .i64 0 ∧ w1 = wr) (fun _ _ _ => 0)
    case atStart => exact ⟨rfl, rfl⟩
    case round =>
      obtain ⟨rfl, rfl⟩ := hrel
      go_wp2_with fail
      go_ret
      obtain ⟨xs, ho, hr⟩ := HO1.out
      exact ⟨_, rfl, .inl ⟨rfl, _, _, rfl, ⟨fun _ => 0, fun _ _ => trivial, xs, ho, hr.1, fun j p hj => by simp at hj⟩⟩, Q2.out⟩
  obtain ⟨g1, rfl, -, hg1, hrow⟩ := HO1.out.rowAt h0
  have HG1 := hide hg1
  have hm0 : (markK w.heap.size).RowAt 33 w1 (fun k => k ≠ g1) g1 c1 (marks l []) := by
    rw [marks_zero]
    obtain ⟨cur, e1, e2, e3, e4, e5, e6⟩ := hrow
    refine ⟨cur, e1, e2, by simpa using e3, e4, by rw [List.length_map]; exact e5, fun i x hx => ?_⟩
    rw [List.getElem?_map] at hx
    cases hy : l[i]? with
    | none => rw [hy] at hx; cases hx
    | some y =>
      rw [hy] at hx
      injection hx with hx
      subst hx
      have := e6 i y hy
      rw [List.length_map]
      exact .inl ⟨rfl, boxK.weaken (fun k hk => ⟨by omega, hk.2⟩) this⟩
  have HM0 := hide hm0
  have HP0 := hide h0
  clear hrow hm0 HO1 hg1
  go_wp2_with fail
  go_loopw [4, 9] (fun _ t9 wr => ∃ I : List (Nat × Nat), t9 = .int .i64 I.length ∧ I.length ≤ l.length ∧ Hid ((markK w.heap.size).RowAt 33 wr (fun k => k ≠ g1) g1 c1 (marks l I)) ∧ Hid (Chain I wr.heap.size) ∧ Hid (Below w.heap.size w wr)) (fun _ t9 _ => l.length - (intOf t9).toNat)
  case atStart => exact ⟨[], rfl, Nat.zero_le _, HM0, hide (Chain.nil _), Q2⟩
  case round =>
    obtain ⟨I, rfl, hi, HRW, HC, HB⟩ := hrel
    obtain ⟨i, hiI⟩ : ∃ i, i = I.length := ⟨_, rfl⟩
    rw [← hiI] at hi ⊢
    have HII := hide hiI
    clear hiI
    by_cases hlt : i < l.length
    · obtain ⟨x, hx⟩ : ∃ x, l[i]? = some x := ⟨_, List.getElem?_eq_getElem hlt⟩
      have hb1 := HSZ.out x (List.mem_of_getElem? hx)
      have hx' := hx
      rw [HII.out] at hx'
      have hmk := marks_at hx'
      obtain ⟨cs, hcs, hcell⟩ := HRW.out.cells' hmk
      rcases hcs with ⟨-, A5, c5, rfl, hl5, hr5⟩ | ⟨p, v, h, -⟩
      rotate_left
      · cases h
      rw [← HII.out] at hcell
      have z4 : wr.cell? ⟨g1, i * 7 + 6, none⟩ = some (.slice A5 x.f6.length c5) := hcell 6 _ rfl
      have HR5 := hide hr5
      have HX := hide hx'
      have zf := HRW.out.frozen (i * 7 + 6)
      clear hx hx' hmk hcell hr5
      go_wp2_with (go_at_call 59
                   refine (Clone_int A5 x.f6.length c5 x.f6 _ _ HR5.out hb1).mono ?_
                   rintro e w2 ⟨v2, rfl, q1, q2⟩
                   have HRW2 := hide (HRW.out.below q2)
                   have zf2 := HRW2.out.frozen (i * 7 + 6)
                   have z42 := cell_stays q2 z4
                   obtain ⟨A6, c6, rfl, hl6, hc6, -, -, -⟩ := Kind.Own.form q1
                   have HO2 := hide q1
                   have Q3 := hide q2
                   clear q1 q2 hc6 hl6)
      have hg1lt : g1 < wr.heap.size := HRW.out.lt
      have hwb : w.heap.size ≤ wr.heap.size := HB.out.size
      have hrow2 : (markK w.heap.size).RowAt 33 (w2.setCell ⟨g1, i * 7 + 6, none⟩ (.slice A6 x.f6.length c6)) (fun k => k ≠ g1) g1 c1 (marks l (I ++ [(wr.heap.size, w2.heap.size)])) := by
        rw [← marks_set (wr.heap.size, w2.heap.size) HX.out]
        have hil : I.length < (marks l I).length := by rw [marks_length _ _ (by have := HII.out; omega)]; have := HII.out; omega
        have hix : (marks l I)[I.length] = (x, none) := (List.getElem?_eq_some_iff.1 (marks_at HX.out)).2
        have := HRW2.out.field (i := I.length) (j := 6) (v := .slice A6 x.f6.length c6) (y := (x, some (wr.heap.size, w2.heap.size))) hil (show 6 < 7 by omega) (fun cs hcs => ?_) (fun k hk => hk)
        · rw [HII.out]; exact this
        · rw [hix] at hcs
          rcases hcs with ⟨-, A7, c7, rfl, -, -⟩ | ⟨p, v, h, -⟩
          · refine .inr ⟨_, .slice A6 x.f6.length c6, rfl, rfl, rfl, (own_int HO2.out).lower hwb, fun k hk => ?_⟩
            have := HO2.out.lt k hk
            exact ⟨by omega, this.1, this.2⟩
          · cases h
      have hszz : (w2.setCell ⟨g1, i * 7 + 6, none⟩ (.slice A6 x.f6.length c6)).heap.size = w2.heap.size := by simp [World.setCell]
      have hch : Chain (I ++ [(wr.heap.size, w2.heap.size)]) (w2.setCell ⟨g1, i * 7 + 6, none⟩ (.slice A6 x.f6.length c6)).heap.size := by rw [hszz]; exact HC.out.snoc Q3.out.size
      have hbb : Below w.heap.size w (w2.setCell ⟨g1, i * 7 + 6, none⟩ (.slice A6 x.f6.length c6)) := Below.setCell (below_self HB.out Q3.out) HG1.out _
      have HROW2 := hide hrow2
      have HCH := hide hch
      have HBB := hide hbb
      have hlen : (I ++ [(wr.heap.size, w2.heap.size)]).length = i + 1 := by rw [HII.out]; simp
      have HLEN := hide hlen
      clear hrow2 hch hbb hszz hlen
      go_wp2_with fail
      go_roundw
      case rel => exact ⟨_, by rw [HLEN.out]; go_num, by rw [HLEN.out]; omega, HROW2, HCH, HBB⟩
      case measure => simp [intOf]; omega
    · have hin : I.length = l.length := by have := HII.out; omega
      have HS : Hid (Owned wr w.heap.size (.slice (some ⟨g1, 0, none⟩) l.length c1) l) := hide (.inr ⟨g1, c1, I, _, rfl, HP0.out, HG1.out, HL1.out, HRW.out, hin, HC.out⟩)
      clear hin
      go_wp2_with fail
      go_ret
      exact ⟨_, rfl, HS.out, HB.out⟩
theorem Adjust1_any (n : Int) (w : World) : Calls Try.prog 27 #[.int .i64 n] w fun e w' => e = .returned (.int .i64 0) ∧ w = w' := by
 go_enter Try.func27, Try.ntmps27
 go_wp2_with fail
 go_ret
 exact ⟨rfl, rfl⟩
theorem Adjust2_any (n : Int) (w : World) : Calls Try.prog 28 #[.int .i64 n] w fun e w' => e = .returned (.int .i64 0) ∧ w = w' := by
 go_enter Try.func28, Try.ntmps28
 go_wp2_with fail
 go_ret
 exact ⟨rfl, rfl⟩
def most0 (n : Int) : Int := if n < 0 then 0 else n
theorem Adjust3_any (n : Int) (w : World) : Calls Try.prog 29 #[.int .i64 n] w fun e w' => e = .returned (.int .i64 (most0 n)) ∧ w = w' := by
 by_cases h : n < 0
 ·have HM : Hid (most0 n = 0) := hide (by unfold most0; rw [if_pos h])
  go_enter Try.func29, Try.ntmps29
  go_wp2_with fail
  all_goals go_ret
  all_goals exact ⟨ret_int (by rw [HM.out] <;> omega), rfl⟩
 ·have HM : Hid (most0 n = n) := hide (by unfold most0; rw [if_neg h])
  have h' : 0 ≤ n := by omega
  go_enter Try.func29, Try.ntmps29
  go_wp2_with fail
  all_goals go_ret
  all_goals exact ⟨ret_int (by rw [HM.out] <;> omega), rfl⟩
theorem and_one (n : Int) (h0 : 0 ≤ n) (h1 : n < 4611686018427387904) : bits .and .i64 n 1 = n % 2 :=
 bits_mask .i64 62 (by decide) (fun m h0 h1 => by rw [IntKind.wrap_i64]; omega) 1 (by decide) n h0 h1
theorem half_any (n : Int) (w : World) (h0 : 0 ≤ n) (h1 : n ≤ 1000000000000) : Calls Try.prog 31 #[.int .i64 n] w fun e w' => e = .returned (.int .i64 (n / 2)) ∧ w = w' := by
 have ha := and_one n h0 (by omega)
 go_enter Try.func31, Try.ntmps31
 go_wp2_with fail
 go_ret
 exact ⟨ret_int (by first | rfl | omega | (unfold wrap64; omega)), rfl⟩
theorem most0_range (n : Int) : 0 ≤ most0 n ∧ (n ≤ 1000000000000 → most0 n ≤ 1000000000000) := by
 unfold most0
 split <;> omega
theorem Adjust4_any (n : Int) (w : World) (hn : n ≤ 1000000000000) : Calls Try.prog 30 #[.int .i64 n] w fun e w' => e = .returned (.int .i64 (most0 n / 2)) ∧ w = w' := by
 have hr := most0_range n
 have HH := hide (half_any (most0 n) w hr.1 (hr.2 hn))
 clear hr
 by_cases h : n < 0
 ·have hm : most0 n = 0 := by unfold most0; rw [if_pos h]
  rw [hm] at HH ⊢
  clear hm
  go_enter Try.func30, Try.ntmps30
  go_wp2_with (go_at_call 31; refine HH.out.mono ?_; rintro e w2 ⟨rfl, rfl⟩)
  all_goals go_ret
  all_goals exact ⟨rfl, rfl⟩
 ·have hm : most0 n = n := by unfold most0; rw [if_neg h]
  rw [hm] at HH ⊢
  clear hm
  have h' : 0 ≤ n := by omega
  by_cases h0 : n = 0
  ·subst h0
   go_enter Try.func30, Try.ntmps30
   go_wp2_with (go_at_call 31; refine HH.out.mono ?_; rintro e w2 ⟨rfl, rfl⟩)
   all_goals go_ret
   all_goals exact ⟨rfl, rfl⟩
  ·have h2 : 0 < n := by omega
   clear h0
   go_enter Try.func30, Try.ntmps30
   go_wp2_with (go_at_call 31; refine HH.out.mono ?_; rintro e w2 ⟨rfl, rfl⟩)
   all_goals go_ret
   all_goals exact ⟨rfl, rfl⟩
end Go.Proofs.YteadghhmoggjnaaB
end
end
section
section
namespace Go.Proofs.YteadghhmoggjnaaB
open Go.RowKit
open Yteadghhmoggjnaa.Q (S33 k33 z33 k33_open k33_mk k33_mkM k33_openF)
open YteadghhmoggjnaaW.PrintWords (Kd ReadsRow)
set_option maxHeartbeats 1600000
set_option maxRecDepth 1000000
def setBlock (w : World) (b : Nat) (o : Obj) : World := { w with heap := w.heap.setIfInBounds b o }
theorem key_u8 (w : World) (e : Bool) (k : Int) : (Instr.checkKey e 10000 5 (.int .u8 k)).run Try.prog w = .ok () w :=
 MapKept.run_checkKey (d := .int .u8) (k := .int .u8 k) Try.underlying5 (show MapKept.IsKey (.int .u8) (.int .u8 k) from rfl) e 9999
theorem find_u8 (w : World) (k : Int) (l : List MapEntry) {r : Option (Nat × Value)} (hn : Instr.findNow (.int .u8) (.int .u8 k) l 0 = some r) : (Instr.findKey 5 (.int .u8 k) l).run Try.prog w = .ok r w := by
 simp only [Instr.findKey, Sem.run_bind, run_underlying Try.underlying5, Result.andThen, hn]
 rfl
theorem put_u8 {w : World} {b : Nat} {es : Array MapEntry} {clock : Nat} (hb : w.heap[b]? = some (.map es clock)) (k : Int) (v : Value) (hn : Instr.findNow (.int .u8) (.int .u8 k) es.toList 0 = some none) :
  (Instr.mapUpdate 60 (.map (some b)) (.int .u8 k) v).run Try.prog w = .ok () (setBlock w b (.map (es.push ⟨.int .u8 k, v, clock⟩) (clock + 1))) := by
 simp [Instr.mapUpdate, run_underlying Try.underlying60, MapKept.run_getObj_map hb, key_u8, find_u8 w k es.toList hn, MapKept.run_setObj_map _ hb, Result.andThen, setBlock]
theorem look_u8 {w : World} {b : Nat} {es : Array MapEntry} {clock : Nat} (hb : w.heap[b]? = some (.map es clock)) (k : Int) {r : Option (Nat × Value)} (hn : Instr.findNow (.int .u8) (.int .u8 k) es.toList 0 = some r) :
  (Instr.lookup 60 (.map (some b)) (.int .u8 k) true).run Try.prog w = .ok (match r with | some (_, v) => .tuple #[v, .bool true] | none => .tuple #[.nilFunc, .bool false]) w := by
 have hz : (zeroValue 59).run Try.prog w = .ok .nilFunc w := by kernel_rfl
 cases r with
 | none => simp [Instr.lookup, run_underlying Try.underlying60, MapKept.run_getObj_map hb, key_u8, find_u8 w k es.toList hn, Result.andThen, hz]
 | some p => simp [Instr.lookup, run_underlying Try.underlying60, MapKept.run_getObj_map hb, key_u8, find_u8 w k es.toList hn, Result.andThen]
theorem set_block {w : World} {b : Nat} {o o' : Obj} (h : w.heap[b]? = some o) : (setBlock w b o').heap[b]? = some o' := by
 have hlt := blk_lt h
 simp [setBlock, hlt]
theorem below_block {w w0 : World} {B b : Nat} (h : Below B w0 w) (hb : B ≤ b) (o : Obj) : Below B w0 (setBlock w b o) :=
 ⟨h.os, h.tape, h.output, by simpa [setBlock] using h.size, fun k hk => by
  rw [← h.block k hk]
  have : b ≠ k := by omega
  simp [setBlock, this]⟩
def waysE : Array MapEntry := #[⟨.int .u8 108, .func (.func 27) #[] #[], 0⟩, ⟨.int .u8 98, .func (.func 28) #[] #[], 1⟩, ⟨.int .u8 114, .func (.func 29) #[] #[], 2⟩, ⟨.int .u8 99, .func (.func 30) #[] #[], 3⟩]
theorem ways_made (w : World) : ∃ W1 W2 W3 W4, (Instr.mapUpdate 60 (.map (some w.heap.size)) (.int .u8 108) (.func (.func 27) #[] #[])).run Try.prog (w.alloc (.map #[] 0)) = .ok () W1 ∧
  (Instr.mapUpdate 60 (.map (some w.heap.size)) (.int .u8 98) (.func (.func 28) #[] #[])).run Try.prog W1 = .ok () W2 ∧
  (Instr.mapUpdate 60 (.map (some w.heap.size)) (.int .u8 114) (.func (.func 29) #[] #[])).run Try.prog W2 = .ok () W3 ∧
  (Instr.mapUpdate 60 (.map (some w.heap.size)) (.int .u8 99) (.func (.func 30) #[] #[])).run Try.prog W3 = .ok () W4 ∧ W4.heap[w.heap.size]? = some (.map waysE 4) ∧ Below w.heap.size w W4 := by
 have h0 := blk_new w (.map #[] 0)
 have h1 := set_block (o' := .map (#[].push ⟨.int .u8 108, .func (.func 27) #[] #[], 0⟩) (0 + 1)) h0
 have h2 := set_block (o' := .map ((#[].push ⟨.int .u8 108, .func (.func 27) #[] #[], 0⟩).push ⟨.int .u8 98, .func (.func 28) #[] #[], 0 + 1⟩) (0 + 1 + 1)) h1
 have h3 := set_block (o' := .map (((#[].push ⟨.int .u8 108, .func (.func 27) #[] #[], 0⟩).push ⟨.int .u8 98, .func (.func 28) #[] #[], 0 + 1⟩).push ⟨.int .u8 114, .func (.func 29) #[] #[], 0 + 1 + 1⟩) (0 + 1 + 1 + 1)) h2
 have r1 := put_u8 h0 108 (.func (.func 27) #[] #[]) rfl
 have r2 := put_u8 h1 98 (.func (.func 28) #[] #[]) rfl
 have r3 := put_u8 h2 114 (.func (.func 29) #[] #[]) rfl
 have r4 := put_u8 h3 99 (.func (.func 30) #[] #[]) rfl
 refine ⟨_, _, _, _, r1, r2, r3, r4, set_block h3, ?_⟩
 exact below_block (below_block (below_block (below_block (below_a _) (Nat.le_refl _) _) (Nat.le_refl _) _) (Nat.le_refl _) _) (Nat.le_refl _) _
theorem look_l {w : World} {b : Nat} (hb : w.heap[b]? = some (.map waysE 4)) : (Instr.lookup 60 (.map (some b)) (.int .u8 108) true).run Try.prog w = .ok (.tuple #[.func (.func 27) #[] #[], .bool true]) w := look_u8 hb 108 rfl
theorem look_b {w : World} {b : Nat} (hb : w.heap[b]? = some (.map waysE 4)) : (Instr.lookup 60 (.map (some b)) (.int .u8 98) true).run Try.prog w = .ok (.tuple #[.func (.func 28) #[] #[], .bool true]) w := look_u8 hb 98 rfl
theorem look_r {w : World} {b : Nat} (hb : w.heap[b]? = some (.map waysE 4)) : (Instr.lookup 60 (.map (some b)) (.int .u8 114) true).run Try.prog w = .ok (.tuple #[.func (.func 29) #[] #[], .bool true]) w := look_u8 hb 114 rfl
theorem look_c {w : World} {b : Nat} (hb : w.heap[b]? = some (.map waysE 4)) : (Instr.lookup 60 (.map (some b)) (.int .u8 99) true).run Try.prog w = .ok (.tuple #[.func (.func 30) #[] #[], .bool true]) w := look_u8 hb 99 rfl
theorem look_no {w : World} {b : Nat} (hb : w.heap[b]? = some (.map waysE 4)) (m : Int) (h1 : m ≠ 108) (h2 : m ≠ 98) (h3 : m ≠ 114) (h4 : m ≠ 99) : (Instr.lookup 60 (.map (some b)) (.int .u8 m) true).run Try.prog w = .ok (.tuple #[.nilFunc, .bool false]) w :=
 look_u8 hb m (r := none) (by
 have e1 : (m == 108) = false := beq_eq_false_iff_ne.2 h1
 have e2 : (m == 98) = false := beq_eq_false_iff_ne.2 h2
 have e3 : (m == 114) = false := beq_eq_false_iff_ne.2 h3
 have e4 : (m == 99) = false := beq_eq_false_iff_ne.2 h4
 simp [waysE, Instr.findNow, Instr.sameNow, e1, e2, e3, e4])
def grown (each more n : Int) (odd : Bool) (k : Nat) (x : S33) : S33 := ⟨x.f0, x.f1 + each + (if (odd && decide ((k : Int) < more)) || (!odd && decide (n - more ≤ (k : Int))) then 1 else 0), x.f2, x.f3, x.f4, x.f5, x.f6⟩
def spreadTo (l : List S33) (g : List Int) (each more : Int) (odd : Bool) : Nat → List S33
 | 0 => l
 | k + 1 => match g[k]? with
  | some i => (spreadTo l g each more odd k).modify i.toNat (grown each more g.length odd k)
  | none => spreadTo l g each more odd k
def spread (l : List S33) (lack : Int) (odd : Bool) : List S33 := spreadTo l (growL l) (lack / (growL l).length) (lack % (growL l).length) odd (growL l).length
def wayOf (mode lack : Int) : Int := if mode = 114 then most0 lack else if mode = 99 then most0 lack / 2 else 0
def adjL (l : List S33) (len mode : Int) (odd : Bool) : List S33 × Int × Int :=
 if checkI l [len] = 1 ∨ ¬ (mode = 108 ∨ mode = 98 ∨ mode = 114 ∨ mode = 99) then ([], 0, 1)
 else if checkI l [len] ≠ 0 then ([], 0, checkI l [len])
 else (if mode = 98 ∧ 0 < len - widthW l ∧ 0 < (growL l).length then spread l (len - widthW l) odd else l, wayOf mode (len - widthW l), 0)
theorem spreadTo_len (l : List S33) (g : List Int) (each more : Int) (odd : Bool) : ∀ k, (spreadTo l g each more odd k).length = l.length
 | 0 => rfl
 | k + 1 => by
  unfold spreadTo
  split
  ·rw [List.length_modify, spreadTo_len l g each more odd k]
  ·exact spreadTo_len l g each more odd k
theorem valid_n {x : S33} (h : validB x = true) : x.f6.length ≤ 40 := by
 unfold validB bareB at h
 simp only [Bool.and_eq_true] at h
 obtain ⟨-, h⟩ := h
 have z : ∀ {n : Nat}, (n == 0) = true → n ≤ 40 := fun h => by have := beq_iff_eq.1 h; omega
 split at h
 ·exact z (Bool.and_eq_true_iff.1 h).2
 ·split at h
  ·exact z (Bool.and_eq_true_iff.1 h).2
  ·split at h
   ·exact of_decide_eq_true (Bool.and_eq_true_iff.1 (Bool.and_eq_true_iff.1 h).1).2
   ·split at h
    ·exact z (Bool.and_eq_true_iff.1 (Bool.and_eq_true_iff.1 (Bool.and_eq_true_iff.1 h).1).1).2
    ·split at h
     ·exact z (Bool.and_eq_true_iff.1 (Bool.and_eq_true_iff.1 h).1).2
     ·cases h
theorem valid_w {x : S33} (h : validB x = true) : -1000000 ≤ x.f1 ∧ x.f1 ≤ 1000000 := by
 unfold validB at h
 simp only [Bool.and_eq_true] at h
 obtain ⟨h, -⟩ := h
 simp at h
 omega
theorem check_ok {l : List S33} {ns : List Int} (h : checkI l ns = 0) : l.all validB = true ∧ allI farL ns = true ∧ l.length ≤ 5000 := by
 unfold checkI at h
 cases h1 : l.all validB <;> cases h2 : allI farL ns <;> simp [h1, h2] at h ⊢
 omega
theorem width_foldl (l : List S33) (hv : l.all validB = true) : ∀ (k : Nat), k ≤ l.length → -1000000 * (k : Int) ≤ widthW (l.take k) ∧ widthW (l.take k) ≤ 1000000 * (k : Int) ∨ 5000000 < k
 | 0, _ => .inl (by simp [widthW])
 | k + 1, hk => by
  rcases width_foldl l hv k (by omega) with h | h
  ·by_cases hk5 : 5000000 < k + 1
   ·exact .inr hk5
   refine .inl ?_
   have hx : l[k]? = some l[k] := List.getElem?_eq_getElem (by omega)
   have hvx := valid_w (List.all_eq_true.1 hv l[k] (List.getElem_mem _))
   cases hc : counts l[k] with
   | true => rw [width_yes hx hc]; unfold wrap64; omega
   | false => rw [width_no hx hc]; omega
  ·exact .inr (by omega)
theorem width_range {l : List S33} (hv : l.all validB = true) (hn : l.length ≤ 5000) : -5000000000 ≤ widthW l ∧ widthW l ≤ 5000000000 := by
 have h := width_foldl l hv l.length (Nat.le_refl _)
 rw [List.take_length] at h
 omega
end Go.Proofs.YteadghhmoggjnaaB
end
section
namespace Go.Proofs.YteadghhmoggjnaaB
open Go.RowKit
open Yteadghhmoggjnaa.Q (S33 k33 z33 k33_open k33_mk k33_mkM k33_openF)
open YteadghhmoggjnaaW.PrintWords (Kd ReadsRow)
set_option maxHeartbeats 1600000
set_option maxRecDepth 1000000
def withW (x : S33) (n : Int) : S33 := ⟨x.f0, n, x.f2, x.f3, x.f4, x.f5, x.f6⟩
theorem marks_put {L : List S33} {I : List (Nat × Nat)} {j : Nat} {y : S33} {p : Nat × Nat} (hI : I.length = L.length) (hj : j < L.length) (hp : I[j]? = some p) : (marks L I).set j (y, some p) = marks (L.set j y) I := by
 unfold marks
 rw [hI, List.take_length, List.drop_length, List.map_nil, List.append_nil, List.take_of_length_le (by simp), List.drop_of_length_le (by simp), List.map_nil, List.append_nil]
 apply List.ext_getElem?
 intro k
 rw [List.getElem?_set]
 by_cases hk : j = k
 ·subst hk
  rw [if_pos rfl, if_pos (by simp; omega)]
  symm
  rw [List.getElem?_zip_eq_some]
  exact ⟨by rw [List.getElem?_set_self hj], by rw [List.getElem?_map, hp]; rfl⟩
 ·rw [if_neg hk]
  apply Option.ext
  rintro ⟨a, o⟩
  rw [List.getElem?_zip_eq_some, List.getElem?_zip_eq_some, List.getElem?_set_ne hk]
theorem row_width {w : World} {base g c : Nat} {L : List S33} {I : List (Nat × Nat)} {j : Nat} {y : S33} (h : (markK base).RowAt 33 w (fun k => k ≠ g) g c (marks L I)) (hI : I.length = L.length) (hy : L[j]? = some y) (n : Int) :
  w.cell? ⟨g, j * 7 + 1, none⟩ = some (.int .i64 y.f1) ∧ (markK base).RowAt 33 (w.setCell ⟨g, j * 7 + 1, none⟩ (.int .i64 n)) (fun k => k ≠ g) g c (marks (L.set j (withW y n)) I) := by
 have hj := (List.getElem?_eq_some_iff.1 hy).1
 obtain ⟨p, hp, hm⟩ := marks_all hI hy
 have hcell : w.cell? ⟨g, j * 7 + 1, none⟩ = some (.int .i64 y.f1) := by
  obtain ⟨cs, hcs, hcell⟩ := h.cells' hm
  rcases hcs with ⟨h0, -⟩ | ⟨p', v, h0, rfl, -⟩
  ·cases h0
  ·exact hcell 1 _ rfl
 refine ⟨hcell, ?_⟩
 rw [← marks_put hI hj hp]
 have hjm : j < (marks L I).length := by rw [marks_length _ _ (by omega)]; exact hj
 have hix : (marks L I)[j] = (y, some p) := (List.getElem?_eq_some_iff.1 hm).2
 refine h.field (i := j) (j := 1) hjm (show 1 < 7 by omega) (fun cs hcs => ?_) (fun k hk => hk)
 rw [hix] at hcs
 rcases hcs with ⟨h0, -⟩ | ⟨p', v, h0, rfl, h1, h2, h3⟩
 ·cases h0
 ·have hpp : p = p' := by injection h0
  subst hpp
  exact .inr ⟨p, v, rfl, rfl, h1, h2, h3⟩
theorem grow_at {l : List S33} {k : Nat} {i : Int} (h : (growL l)[k]? = some i) : ∃ j : Nat, i = (j : Int) ∧ j < l.length := by
 have hm := List.mem_of_getElem? h
 unfold growL growTo at hm
 rw [List.mem_map] at hm
 obtain ⟨j, hj, rfl⟩ := hm
 rw [List.mem_filter, List.mem_range] at hj
 exact ⟨j, rfl, hj.1⟩
theorem modify_set {l : List S33} {j : Nat} {y : S33} (h : l[j]? = some y) (f : S33 → S33) : l.modify j f = l.set j (f y) := by
 apply List.ext_getElem?
 intro k
 rw [List.getElem?_modify, List.getElem?_set]
 by_cases hk : j = k
 ·subst hk
  have := (List.getElem?_eq_some_iff.1 h).1
  rw [if_pos rfl, if_pos this, h]
  simp
 ·rw [if_neg hk]
  simp [hk]
theorem spread_step {l : List S33} {each more : Int} {odd : Bool} {k j : Nat} {y : S33} (hg : (growL l)[k]? = some (j : Int)) (hy : (spreadTo l (growL l) each more odd k)[j]? = some y) :
  spreadTo l (growL l) each more odd (k + 1) = (spreadTo l (growL l) each more odd k).set j (grown each more (growL l).length odd k y) := by
 show (match (growL l)[k]? with | some i => _ | none => _) = _
 rw [hg]
 show List.modify _ (j : Int).toNat _ = _
 rw [Int.toNat_natCast]
 exact modify_set hy _
def Near (b : Int) (l : List S33) : Prop := ∀ y ∈ l, -1000000 ≤ y.f1 ∧ y.f1 ≤ b
theorem near_set {b b' : Int} {l : List S33} {j : Nat} {z : S33} (h : Near b l) (hb : b ≤ b') (hz : -1000000 ≤ z.f1 ∧ z.f1 ≤ b') : Near b' (l.set j z) := by
 intro y hy
 rcases List.mem_or_eq_of_mem_set hy with h1 | h1
 ·have := h y h1; omega
 ·rw [h1]; exact hz
theorem check_rd (w : World) (len : Int) : Kind.int.Rd (w.alloc (.cells #[.int .i64 len] 3)) (fun _ => True) (some ⟨w.heap.size, 0, none⟩) 1 [len] := by
 refine ⟨rfl, fun _ => ⟨w.heap.size, 0, rfl, trivial, by simp, fun i x hx => ?_⟩⟩
 match i, hx with
 | 0, hx =>
  have : len = x := by simpa using hx
  subst this
  refine ⟨_, rfl, fun j u hu => ?_⟩
  match j, hu with
  | 0, hu =>
   have : Value.int .i64 len = u := by simpa using hu
   subst this
   rw [blk_cell (blk_new w _)]
   rfl
 | i + 1, hx => simp at hx
def Looks (mode : Int) (v : Value) (b : Bool) : Prop := ∀ (W : World) (g : Nat), W.heap[g]? = some (.map waysE 4) → (Instr.lookup 60 (.map (some g)) (.int .u8 mode) true).run Try.prog W = .ok (.tuple #[v, .bool b]) W
section
variable (A : Option Addr) (n c : Nat) (l : List S33) (len mode : Int) (odd : Bool) (w : World) (hr : boxK.Rd w (fun _ => True) A n l) (hc : n ≤ c) (hn : n ≤ 9223372036854775807) (hlen : ∀ x ∈ l, x.f6.length ≤ 9223372036854775807)
include hr hn hlen
theorem Adjust_err1 (v : Value) (b : Bool) (hl : Looks mode v b) (h : checkI l [len] = 1 ∨ b = false) :
  Calls Try.prog 11 #[.slice A n c, .int .i64 len, .int .u8 mode, .bool odd] w fun e w' => e = .returned (.tuple #[.slice none 0 0, .int .i64 0, .int .i64 1]) ∧ Below w.heap.size w w' := by
 have HR := hide hr
 have HLEN := hide hlen
 have hmm := @run_makeMap Try.prog
 obtain ⟨e0, he0⟩ : ∃ e0, e0 = checkI l [len] := ⟨_, rfl⟩
 rw [← he0] at h
 have HE0 := hide he0
 have HL := hide hl
 have HH := hide h
 clear hr hlen he0 hl h
 go_enter Try.func11, Try.ntmps11
 go_upto_region 2 with (go_at_call 26; refine (check_any A n c l (some ⟨w.heap.size, 0, none⟩) 1 1 [len] (fun _ => True) _ (HR.out.below (below_a _)) hn HLEN.out (check_rd w len) (by omega)).mono ?_; rw [← HE0.out]; rintro e w1 ⟨rfl, q⟩; have Q1 := hide (below_self (below_a _) q); clear q)
 obtain ⟨W1, W2, W3, W4, r1, r2, r3, r4, hb4, hbel⟩ := ways_made w1
 have hlk := HL.out W4 w1.heap.size hb4
 have HB4 := hide (below_self Q1.out hbel)
 clear hb4 hbel
 have HH2 := HH.out
 rcases HH2 with h1 | h1
 ·subst h1
  go_wp2_with fail
  go_ret3
  exact ⟨rfl, HB4.out⟩
 ·subst h1
  go_wp2_with fail
  all_goals go_ret3
  all_goals exact ⟨rfl, HB4.out⟩
theorem Adjust_err2 (v : Value) (hl : Looks mode v true) (h1 : checkI l [len] ≠ 1) (h0 : checkI l [len] ≠ 0) :
  Calls Try.prog 11 #[.slice A n c, .int .i64 len, .int .u8 mode, .bool odd] w fun e w' => e = .returned (.tuple #[.slice none 0 0, .int .i64 0, .int .i64 (checkI l [len])]) ∧ Below w.heap.size w w' := by
 have HR := hide hr
 have HLEN := hide hlen
 have hmm := @run_makeMap Try.prog
 obtain ⟨e0, he0⟩ : ∃ e0, e0 = checkI l [len] := ⟨_, rfl⟩
 rw [← he0] at h0 h1 ⊢
 have HE0 := hide he0
 have HL := hide hl
 have hb1 : (e0 == 1) = false := beq_eq_false_iff_ne.2 h1
 have hb0 : (e0 != 0) = true := by simpa using h0
 clear hr hlen he0 hl h0 h1
 go_enter Try.func11, Try.ntmps11
 go_upto_region 2 with (go_at_call 26; refine (check_any A n c l (some ⟨w.heap.size, 0, none⟩) 1 1 [len] (fun _ => True) _ (HR.out.below (below_a _)) hn HLEN.out (check_rd w len) (by omega)).mono ?_; rw [← HE0.out]; rintro e w1 ⟨rfl, q⟩; have Q1 := hide (below_self (below_a _) q); clear q)
 obtain ⟨W1, W2, W3, W4, r1, r2, r3, r4, hb4, hbel⟩ := ways_made w1
 have hlk := HL.out W4 w1.heap.size hb4
 have HB4 := hide (below_self Q1.out hbel)
 clear hb4 hbel
 go_wp2_with fail
 go_ret3
 exact ⟨rfl, HB4.out⟩
def Way (mode : Int) (gf : Nat) : Prop := ∀ (k : Int) (W : World), k ≤ 1000000000000 → Calls Try.prog gf #[.int .i64 k] W fun e W' => e = .returned (.int .i64 (wayOf mode k)) ∧ W = W'
theorem Adjust_plain (gf : Nat) (eg : ∀ args w, (callFunc gf args).run Try.prog w = .ok (.enter gf args) w) (hl : Looks mode (.func (.func gf) #[] #[]) true) (hw : Way mode gf) (h0 : checkI l [len] = 0) (h : mode ≠ 98 ∨ ¬ (0 < len - widthW l) ∨ (growL l).length = 0) :
    Calls Try.prog 11 #[.slice A n c, .int .i64 len, .int .u8 mode, .bool odd] w fun e w' => ∃ v, e = .returned (.tuple #[v, .int .i64 (wayOf mode (len - widthW l)), .int .i64 0]) ∧ Kd.S k33 33 w' w.heap.size (fun _ => True) v l ∧ Below w.heap.size w w' := by
  have HR := hide hr
  have HLEN := hide hlen
  have hmm := @run_makeMap Try.prog
  obtain ⟨hva, hfar, hl5⟩ := check_ok h0
  have hwr := width_range hva hl5
  have hlr : 0 ≤ len ∧ len ≤ 10000000 := by
    unfold allI at hfar
    have := List.all_eq_true.1 hfar len (by simp)
    unfold farL at this
    simp at this
    omega
  have HNS := hide (fun (y : S33) (hy : y ∈ l) => show y.f6.length ≤ 17592186044416 from Nat.le_trans (valid_n (List.all_eq_true.1 hva y hy)) (by omega))
  have hln : l.length = n := hr.1
  have hn5 : n ≤ 5000 := by omega
  have HE0 := hide h0
  have HL := hide hl
  have HW := hide hw
  have HLN := hide hln
  obtain ⟨wl, hwl⟩ : ∃ wl, wl = widthW l := ⟨_, rfl⟩
  obtain ⟨ng, hng⟩ : ∃ ng, ng = (growL l).length := ⟨_, rfl⟩
  rw [← hwl] at h hwr ⊢
  rw [← hng] at h
  obtain ⟨hw1, hw2⟩ := hwr
  obtain ⟨hl1, hl2⟩ := hlr
  have HWL := hide hwl
  have HNG := hide hng
  have HH := hide h
  clear hr hlen hl hw h0 hva hfar hl5 hln hwl hng h
  go_enter Try.func11, Try.ntmps11
  go_upto_region 2 with (go_at_call 26; refine (check_any A n c l (some ⟨w.heap.size, 0, none⟩) 1 1 [len] (fun _ => True) _ (HR.out.below (below_a _)) hn HLEN.out (check_rd w len) (by omega)).mono ?_; rw [HE0.out]; rintro e w1 ⟨rfl, q⟩; have Q1 := hide (below_self (below_a _) q); clear q)
  obtain ⟨W1, W2, W3, W4, r1, r2, r3, r4, hb4, hbel⟩ := ways_made w1
  have hlk := HL.out W4 w1.heap.size hb4
  have HB4 := hide (below_self Q1.out hbel)
  clear hb4 hbel
  go_upto_region 11 with (first
    | (go_at_call 32
       refine (own_row A n c l (fun _ => True) _ (HR.out.below HB4.out) (by omega) HNS.out).mono ?_
       rintro e w5 ⟨v5, rfl, q1, q2⟩
       obtain ⟨A5, c5, e5, hc5, hr5⟩ := q1.rd
       subst e5
       have HO5 := hide q1
       have HB5 := hide (below_self HB4.out q2)
       have HS5 := hide q2
       have HR5 := hide hr5
       have HC5 := hide hc5
       clear q1 q2 hr5 hc5)
    | (go_at_call 33
       refine (Width_any A5 l.length c5 l (fun _ => True) _ HR5.out (by rw [HLN.out]; omega)).mono ?_
       rw [← HWL.out]
       rintro e w6 ⟨rfl, q⟩
       have HB6 := hide (below_self HB5.out q)
       have HR6 := hide (HR5.out.below q)
       have HO6 := hide (HO5.out.below q)
       clear q)
    | (go_at_call 34
       refine (growing_any A5 l.length c5 l (fun _ => True) _ HR6.out HC5.out (by rw [HLN.out]; omega) HLEN.out).mono ?_
       rintro e w7 ⟨v7, rfl, q1, q2⟩
       obtain ⟨A7, c7, e7, -, -, -, -, -⟩ := q1.form
       rw [← HNG.out] at e7
       subst e7
       have HB7 := hide (below_self HB6.out q2)
       have HO7 := hide (HO6.out.below q2)
       clear q1 q2))
  have HBW : Hid (w.heap.size ≤ W4.heap.size) := hide HB4.out.size
  have fin : ∀ (wz : World), Owned wz W4.heap.size (.slice A5 l.length c5) l → Kd.S k33 33 wz w.heap.size (fun _ => True) (.slice A5 l.length c5) l := fun wz h => YteadghhmoggjnaaW.PrintWords.Kd.S_lower h.S HBW.out
  have FIN := hide fin
  clear fin
  have hk : len - wl ≤ 1000000000000 := by omega
  by_cases h98 : mode = 98
  · subst h98
    rcases HH.out with h | h | h
    · exact absurd rfl h
    · have hb : len - wl ≤ 0 := by omega
      have hb2 : decide (0 < len - wl) = false := decide_eq_false (by omega)
      clear h
      go_wp2_with (go_at_fn gf; refine (HW.out (len - wl) _ hk).mono ?_; rintro e w8 ⟨rfl, rfl⟩)
      go_ret3
      exact ⟨_, rfl, FIN.out _ HO7.out, HB7.out⟩
    · subst h
      go_wp2_with (go_at_fn gf; refine (HW.out (len - wl) _ hk).mono ?_; rintro e w8 ⟨rfl, rfl⟩)
      all_goals go_ret3
      all_goals exact ⟨_, rfl, FIN.out _ HO7.out, HB7.out⟩
  · have hb : (mode == 98) = false := beq_eq_false_iff_ne.2 h98
    clear h98
    go_wp2_with (go_at_fn gf; refine (HW.out (len - wl) _ hk).mono ?_; rintro e w8 ⟨rfl, rfl⟩)
    go_ret3
    exact ⟨_, rfl, FIN.out _ HO7.out, HB7.out⟩
end
end Go.Proofs.YteadghhmoggjnaaB
end
end
section
namespace Go.Proofs.Yteadghhmoggjnaa.Q
open Go.RowKit YteadghhmoggjnaaW.PrintWords YteadghhmoggjnaaW.PrintLast YteadghhmoggjnaaW.PrintMore
instance up0 (w : World) : Nonempty (Below w.heap.size w w) := ⟨Below.refl _ _⟩
instance up1 (w W : World) (o : Obj) [h : Nonempty (Below w.heap.size w W)] : Nonempty (Below w.heap.size w (W.alloc o)) := ⟨h.elim fun h => h.alloc h.size o⟩
instance up2 (w W : World) (n : Nat) [h : Nonempty (Below w.heap.size w W)] : Nonempty (Below w.heap.size w (W.drewN n)) := ⟨h.elim fun h => ⟨h.os, h.tape, h.output, h.size, h.block⟩⟩
instance up3 (w W : World) [h : Nonempty (Below w.heap.size w W)] : Nonempty (Below w.heap.size w W.drew) := ⟨h.elim fun h => ⟨h.os, h.tape, h.output, h.size, h.block⟩⟩
section
variable {w W W' : World} {g : Nat} {ob : Obj}
theorem bl (h : As (Below w.heap.size w W)) [u : Nonempty (Below W.heap.size W W')] : Below w.heap.size w W' := u.elim fun u => h.out.trans (u.mono h.out.size)
theorem ct {r : Addr} {x : Value} (B : As (Below w.heap.size w W)) (h : w.cell? r = some x) : W.cell? r = some x := (B.out.cell (World.block_lt_of_cell? w _ h)).trans h
theorem oa {p : Prop} [Decidable p] (h : decide p = true := by with_reducible assumption) : p := of_decide_eq_true h
theorem qb {α β : Type} {o : Option α} {f : α → Option β} {b : β} (h : o.bind f = some b) : ∃ a, o = some a ∧ f a = some b := Option.bind_eq_some_iff.mp h
theorem bu (h : As (W.heap[g]? = some ob)) [u : Nonempty (Below W.heap.size W W')] : W'.heap[g]? = some ob := u.elim fun u => blk_below h.out u
variable {α : Type} {d : Kd α} {e base : Nat} {ok : Nat → Prop} {v : Value} {xs : List α} {A : Option Addr} {n : Nat}
theorem Vu (h : As (Kd.V d e W base ok v xs)) [u : Nonempty (Below W.heap.size W W')] : Kd.V d e W' base ok v xs := u.elim fun u => Kd.V_below h.out u
theorem Nu (h : As (Kd.N d e W base ok v xs)) [u : Nonempty (Below W.heap.size W W')] : Kd.N d e W' base ok v xs := u.elim fun u => Kd.N_below h.out u
theorem Ru (h : As (d.R e W base ok v xs)) [u : Nonempty (Below W.heap.size W W')] : d.R e W' base ok v xs := u.elim fun u => Kd.R_below h.out u
theorem Su (h : As (Kd.S d e W base ok v xs)) [u : Nonempty (Below W.heap.size W W')] : Kd.S d e W' base ok v xs := u.elim fun u => Kd.S_below h.out u
theorem Cu (h : As (d.C W A n xs)) [u : Nonempty (Below W.heap.size W W')] : d.C W' A n xs := u.elim fun u => Kd.C_below h.out u
theorem ct7 {r0 r1 r2 r3 r4 r5 r6 : Addr} {x0 x1 x2 x3 x4 x5 x6 : Value} (B : As (Below w.heap.size w W)) (h0 : w.cell? r0 = some x0) (h1 : w.cell? r1 = some x1) (h2 : w.cell? r2 = some x2) (h3 : w.cell? r3 = some x3) (h4 : w.cell? r4 = some x4) (h5 : w.cell? r5 = some x5) (h6 : w.cell? r6 = some x6) : W.cell? r0 = some x0 ∧ W.cell? r1 = some x1 ∧ W.cell? r2 = some x2 ∧ W.cell? r3 = some x3 ∧ W.cell? r4 = some x4 ∧ W.cell? r5 = some x5 ∧ W.cell? r6 = some x6 := ⟨ct B h0, ct B h1, ct B h2, ct B h3, ct B h4, ct B h5, ct B h6⟩
theorem box7 {t : TypeId} {v0 v1 v2 v3 v4 v5 v6 : Value} (h : As (W.heap[g]? = some (.cells #[v0, v1, v2, v3, v4, v5, v6] t (0, 0)))) : W.cell? ⟨g, 0, none⟩ = some v0 ∧ W.cell? ⟨g, 1, none⟩ = some v1 ∧ W.cell? ⟨g, 2, none⟩ = some v2 ∧ W.cell? ⟨g, 3, none⟩ = some v3 ∧ W.cell? ⟨g, 4, none⟩ = some v4 ∧ W.cell? ⟨g, 5, none⟩ = some v5 ∧ W.cell? ⟨g, 6, none⟩ = some v6 ∧
  W.frozen? ⟨g, 0, none⟩ = false ∧ W.frozen? ⟨g, 1, none⟩ = false ∧ W.frozen? ⟨g, 2, none⟩ = false ∧ W.frozen? ⟨g, 3, none⟩ = false ∧ W.frozen? ⟨g, 4, none⟩ = false ∧ W.frozen? ⟨g, 5, none⟩ = false ∧ W.frozen? ⟨g, 6, none⟩ = false :=
 ⟨(blk_cell h.out 0).trans rfl, (blk_cell h.out 1).trans rfl, (blk_cell h.out 2).trans rfl, (blk_cell h.out 3).trans rfl, (blk_cell h.out 4).trans rfl, (blk_cell h.out 5).trans rfl, (blk_cell h.out 6).trans rfl, blk_frozen h.out 0, blk_frozen h.out 1, blk_frozen h.out 2, blk_frozen h.out 3, blk_frozen h.out 4, blk_frozen h.out 5, blk_frozen h.out 6⟩
end
section
variable {P : Program} {md : Region.Mode} {ops : Array Oper} {Q : Exit → Act → World → Prop} {S : World → Prop} {ds : List Nat} {T : Bool × List (List Nat × List Nat)} {B : List Nat}
theorem el7 {W : World} {g o : Nat} {v0 v1 v2 v3 v4 v5 v6 : Value} (h : ∀ j u, [v0, v1, v2, v3, v4, v5, v6][j]? = some u → W.cell? ⟨g, o + j, none⟩ = some u) (f : ∀ j, W.frozen? ⟨g, o + j, none⟩ = false) : W.cell? ⟨g, o, none⟩ = some v0 ∧ W.cell? ⟨g, o + 1, none⟩ = some v1 ∧ W.cell? ⟨g, o + 2, none⟩ = some v2 ∧ W.cell? ⟨g, o + 3, none⟩ = some v3 ∧ W.cell? ⟨g, o + 4, none⟩ = some v4 ∧ W.cell? ⟨g, o + 5, none⟩ = some v5 ∧ W.cell? ⟨g, o + 6, none⟩ = some v6 ∧
  W.frozen? ⟨g, o, none⟩ = false ∧ W.frozen? ⟨g, o + 1, none⟩ = false ∧ W.frozen? ⟨g, o + 2, none⟩ = false ∧ W.frozen? ⟨g, o + 3, none⟩ = false ∧ W.frozen? ⟨g, o + 4, none⟩ = false ∧ W.frozen? ⟨g, o + 5, none⟩ = false ∧ W.frozen? ⟨g, o + 6, none⟩ = false :=
 ⟨h 0 _ rfl, h 1 _ rfl, h 2 _ rfl, h 3 _ rfl, h 4 _ rfl, h 5 _ rfl, h 6 _ rfl, f 0, f 1, f 2, f 3, f 4, f 5, f 6⟩
theorem pu (i : Nat) (N : Tmp) (HT : As (rtab md ops = T)) {oi : Oper} {v : Value} {fuel : Nat} {l l' : Array Bool} {a a' : Act} {w : World}
  (hl : l.setIfInBounds i true = l' := by simp only [List.setIfInBounds_toArray, List.set_cons_zero, List.set_cons_succ]; rfl)
  (hi : ops[i]? = some oi := by rfl) (hN : oi.dst = some N := by rfl) (hc : anyT T l.toList l'.toList i = true := by kernel_rfl)
  (hw : Region.wanted oi (yielded ops a.tmps) = true := by rfl) (hy : ∀ w', (execOp a.eval oi).run P w' = .ok (.value v) w' := by intro w'; go_simp; with_reducible rfl)
  (hQ : ∀ c a w, Q (.panic c) (a.put oi.dst v) w → Q (.panic c) a w := by exact fun _ _ _ h => h)
  (ha : a.put (some N) v = a' := by simp only [Act.put, List.setIfInBounds_toArray, List.set_cons_zero, List.set_cons_succ, i64_w, i32_w]; rfl)
  (h : wpAnyLast P md ops Q S ds fuel l' a' w) : wpAnyLast P md ops Q S ds (fuel + 1) l a w := pure_ l' hi hN (any_of HT.out hc) hQ (Or.inl ⟨hw, hy⟩) ha h
theorem tk (i : Nat) (N : Tmp) (HT : As (rtab md ops = T)) (HW : As (waitsOk T.2 B = true)) {w : World} (hS : S w) {oi : Oper} {v : Value} {fuel : Nat} {l l' : Array Bool} {a a' : Act}
  (hl : l.setIfInBounds i true = l' := by simp only [List.setIfInBounds_toArray, List.set_cons_zero, List.set_cons_succ]; rfl)
  (hi : ops[i]? = some oi := by rfl) (hN : oi.dst = some N := by rfl) (hc : takeW T B ds l.toList l'.toList i = true := by kernel_rfl)
  (hw : Region.wanted oi (yielded ops a.tmps) = true := by rfl) (hy : ∀ w', S w' → (execOp a.eval oi).run P w' = .ok (.value v) w')
  (hQ : ∀ c a w, Q (.panic c) (a.put oi.dst v) w → Q (.panic c) a w := by exact fun _ _ _ h => h)
  (ha : a.put (some N) v = a' := by simp only [Act.put, List.setIfInBounds_toArray, List.set_cons_zero, List.set_cons_succ, i64_w, i32_w]; rfl)
  (h : wpAnyLast P md ops Q S ds fuel l' a' w) : wpAnyLast P md ops Q S ds (fuel + 1) l a w := take_ l' hi hN (take_ofW HT.out HW.out hc) hQ (Or.inl ⟨hw, hy⟩) hS ha h
end
end Go.Proofs.Yteadghhmoggjnaa.Q
end
