import Derived.Maps.OwnSet
import Derived.Laws.BitsLemmas
import Derived.Test.YteadghhmoggjnaaFR8
set_option linter.unusedVariables false
set_option linter.unusedSimpArgs false
section
section
namespace Go.Proofs.YteadghhmoggjnaaB
open Go.RowKit
open Go.Proofs.Yteadghhmoggjnaa.Q (S33 k33 z33 k33_open k33_mk k33_mkM k33_openF)
open Go.Proofs.YteadghhmoggjnaaW.PrintWords (Kd ReadsRow)
set_option maxHeartbeats 1600000
set_option maxRecDepth 1000000
def lastB (l : List S33) (i : Nat) : Bool := match l[i]? with
 | some x => spaceB x && (match l[i + 1]? with
  | some y => !(spaceB y)
  | none => true)
 | none => false
def grw (l : List S33) (i : Nat) : Bool := lastB l i && (!(noneB solidG (l.take i)) && !(noneB solidG (l.drop (i + 1))))
def growTo (l : List S33) (k : Nat) : List Int := ((List.range k).filter (grw l)).map fun (i : Nat) => (i : Int)
def growL (l : List S33) : List Int := growTo l l.length
theorem growTo_len (l : List S33) (k : Nat) : (growTo l k).length ≤ k := by
 unfold growTo
 rw [List.length_map]
 exact Nat.le_trans (List.length_filter_le _ _) (by simp)
theorem growTo_yes {l : List S33} {k : Nat} (h : grw l k = true) : growTo l (k + 1) = growTo l k ++ [(k : Int)] := by
 unfold growTo
 rw [List.range_succ, List.filter_append, List.map_append]
 simp [h]
theorem growTo_no {l : List S33} {k : Nat} (h : grw l k = false) : growTo l (k + 1) = growTo l k := by
 unfold growTo
 rw [List.range_succ, List.filter_append, List.map_append]
 simp [h]
theorem lastB_no {l : List S33} {k : Nat} {x : S33} (h : l[k]? = some x) (hx : spaceB x = false) : lastB l k = false := by
 unfold lastB
 rw [h]
 simp [hx]
theorem lastB_end {l : List S33} {k : Nat} {x : S33} (h : l[k]? = some x) (hx : spaceB x = true) (hn : l.length = k + 1) : lastB l k = true := by
 unfold lastB
 rw [h, List.getElem?_eq_none (by omega)]
 simp [hx]
theorem lastB_mid {l : List S33} {k : Nat} {x y : S33} (h : l[k]? = some x) (hx : spaceB x = true) (hy : l[k + 1]? = some y) : lastB l k = !(spaceB y) := by
 unfold lastB
 rw [h, hy]
 simp [hx]
theorem growing_any (A : Option Addr) (n c : Nat) (l : List S33) (ok : Nat → Prop) (w : World) (hr : boxK.Rd w ok A n l) (hc : n ≤ c) (hn : n ≤ 1000000000000) (hlen : ∀ x ∈ l, x.f6.length ≤ 9223372036854775807) :
    Calls Try.prog 34 #[.slice A n c] w fun e w' => ∃ v, e = .returned v ∧ Kind.int.Own 3 w' (fun _ => False) w.heap.size v (growL l) ∧ Below w.heap.size w w' := by
  have HR := hide hr
  have hln : l.length = n := hr.1
  have HLN := hide hln
  have HLEN := hide hlen
  clear hr hln hlen
  go_enter Try.func34, Try.ntmps34
  go_wp2_with fail
  go_loopw [5, 6, 7, 8, 11] (fun t5 _ _ _ t11 wr => ∃ (k : Nat) (v5 : Value), t11 = .int .i64 k ∧ v5 = t5 ∧ k ≤ n ∧ Hid (Kind.int.Own 3 wr (fun _ => False) w.heap.size v5 (growTo l k)) ∧ Hid (Below w.heap.size w wr)) (fun _ _ _ _ t11 _ => n - (intOf t11).toNat)
  case atStart => exact ⟨0, _, rfl, rfl, Nat.zero_le _, hide (Kind.Own.nil Kind.int _ _ _ _), hide (Below.refl _ _)⟩
  case round =>
    obtain ⟨k, v5, rfl, rfl, hk, HO, HB⟩ := hrel
    by_cases hlt : k < n
    · obtain ⟨x, hx⟩ : ∃ x, l[k]? = some x := ⟨_, List.getElem?_eq_getElem (by have := HLN.out; omega)⟩
      obtain ⟨b, off, A5, c5, rfl, hr5, -, -, z0, z1, z2, z3, z4, z5, z6⟩ := box_cells (HR.out.below HB.out) hx
      have HR5 := hide (hr5.weaken (ok' := fun _ => True) (fun _ _ => trivial))
      have HL5 := hide (HLEN.out x (List.mem_of_getElem? hx))
      have HX := hide hx
      have hs1 := fun W => slice_high W (some ⟨b, off, none⟩) n c k (by omega)
      have hs2 := fun W => slice_low1 W (some ⟨b, off, none⟩) n c k (by omega)
      clear hx hr5
      go_upto_region 7 with fail
      have hba := below_a (w := wr) (.cells #[.int .i64 x.f0, .int .i64 x.f1, .int .i64 x.f2, .int .i64 x.f3, .string x.f4, .string x.f5, .slice A5 x.f6.length c5] 33)
      have hbx := below_self HB.out hba
      have hox := HO.out.below hba
      have hcx := blk_new wr (.cells #[.int .i64 x.f0, .int .i64 x.f1, .int .i64 x.f2, .int .i64 x.f3, .string x.f4, .string x.f5, .slice A5 x.f6.length c5] 33)
      obtain ⟨gb, hgb⟩ : ∃ gb, gb = wr.heap.size := ⟨_, rfl⟩
      generalize (wr.alloc (.cells #[.int .i64 x.f0, .int .i64 x.f1, .int .i64 x.f2, .int .i64 x.f3, .string x.f4, .string x.f5, .slice A5 x.f6.length c5] 33)) = w1 at hbx hox hcx hba ⊢
      rw [← hgb] at hcx ⊢
      have y0 : w1.cell? ⟨gb, 0, none⟩ = some (.int .i64 x.f0) := by rw [blk_cell hcx]; rfl
      have y1 : w1.cell? ⟨gb, 1, none⟩ = some (.int .i64 x.f1) := by rw [blk_cell hcx]; rfl
      have y2 : w1.cell? ⟨gb, 2, none⟩ = some (.int .i64 x.f2) := by rw [blk_cell hcx]; rfl
      have y3 : w1.cell? ⟨gb, 3, none⟩ = some (.int .i64 x.f3) := by rw [blk_cell hcx]; rfl
      have y4 : w1.cell? ⟨gb, 4, none⟩ = some (.string x.f4) := by rw [blk_cell hcx]; rfl
      have y5 : w1.cell? ⟨gb, 5, none⟩ = some (.string x.f5) := by rw [blk_cell hcx]; rfl
      have y6 : w1.cell? ⟨gb, 6, none⟩ = some (.slice A5 x.f6.length c5) := by rw [blk_cell hcx]; rfl
      have HRX := hide (HR5.out.below hba)
      have HBX := hide hbx
      have HOX := hide hox
      clear hbx hox hba hcx hgb z0 z1 z2 z3 z4 z5 z6
      go_cut [8] (fun t8 wx => ∃ lb : Bool, t8 = .bool lb ∧ Hid (lastB l k = lb) ∧ Hid (Below w1.heap.size w1 wx))
      case first =>
        cases hsx : spaceB x with
        | false =>
          have HS := hide hsx
          clear hsx
          go_wp2_with (go_at_call 60; refine (spaceB_tests x A5 c5 _ HRX.out HL5.out).mono ?_; rw [HS.out]; rintro e w2 ⟨rfl, q⟩; have Q := hide q; clear q)
          go_meet
          exact ⟨false, rfl, hide (lastB_no HX.out HS.out), Q⟩
        | true =>
          have HS := hide hsx
          clear hsx
          by_cases hkn : n = k + 1
          · have hkz : ((k : Int) + 1 == (n : Int)) = true := by simp; omega
            have HKN := hide hkn
            clear hkn
            go_wp2_with (go_at_call 60; refine (spaceB_tests x A5 c5 _ HRX.out HL5.out).mono ?_; rw [HS.out]; rintro e w2 ⟨rfl, q⟩; have Q := hide q; clear q)
            go_meet
            exact ⟨true, rfl, hide (lastB_end HX.out HS.out (by rw [HLN.out, HKN.out])), Q⟩
          · have hkz : ((k : Int) + 1 == (n : Int)) = false := by rw [beq_eq_false_iff_ne]; omega
            obtain ⟨y, hy⟩ : ∃ y, l[k + 1]? = some y := ⟨_, List.getElem?_eq_getElem (by have := HLN.out; omega)⟩
            have HY := hide hy
            have HLY := hide (HLEN.out y (List.mem_of_getElem? hy))
            have jlt : (k : Int) + 1 < (n : Int) := by omega
            clear hy hkn
            cases hsy : spaceB y with
            | false =>
              have HSY := hide hsy
              clear hsy
              go_wp2_with (first
                | (go_at_call 60
                   refine (spaceB_tests x A5 c5 _ HRX.out HL5.out).mono ?_
                   rw [HS.out]
                   rintro e w2 ⟨rfl, q⟩
                   obtain ⟨b2, off2, A6, c6, e2, hr6, -, -, v0, v1, v2, v3, v4, v5, v6⟩ := box_cells (HR.out.below (below_self HBX.out q)) HY.out
                   cases e2
                   rw [show off + (k + 1) * 7 = off + (k + 1) * 7 from rfl] at v0 v1 v2 v3 v4 v5 v6
                   have HRY := hide (hr6.weaken (ok' := fun _ => True) (fun _ _ => trivial))
                   have Q := hide q
                   clear q hr6)
                | (go_at_call 60
                   refine (spaceB_tests y A6 c6 _ HRY.out HLY.out).mono ?_
                   rw [HSY.out]
                   rintro e w3 ⟨rfl, q⟩
                   have Q2 := hide (below_self Q.out q)
                   clear q))
              go_meet
              exact ⟨true, rfl, hide (by rw [lastB_mid HX.out HS.out HY.out, HSY.out]; rfl), Q2⟩
            | true =>
              have HSY := hide hsy
              clear hsy
              go_wp2_with (first
                | (go_at_call 60
                   refine (spaceB_tests x A5 c5 _ HRX.out HL5.out).mono ?_
                   rw [HS.out]
                   rintro e w2 ⟨rfl, q⟩
                   obtain ⟨b2, off2, A6, c6, e2, hr6, -, -, v0, v1, v2, v3, v4, v5, v6⟩ := box_cells (HR.out.below (below_self HBX.out q)) HY.out
                   cases e2
                   have HRY := hide (hr6.weaken (ok' := fun _ => True) (fun _ _ => trivial))
                   have Q := hide q
                   clear q hr6)
                | (go_at_call 60
                   refine (spaceB_tests y A6 c6 _ HRY.out HLY.out).mono ?_
                   rw [HSY.out]
                   rintro e w3 ⟨rfl, q⟩
                   have Q2 := hide (below_self Q.out q)
                   clear q))
              go_meet
              exact ⟨false, rfl, hide (by rw [lastB_mid HX.out HS.out HY.out, HSY.out]; rfl), Q2⟩
      case rest =>
      obtain ⟨lb, rfl, HLB, HBC⟩ := hcut
      have HBY := hide (below_self HBX.out HBC.out)
      have HOY := hide (HOX.out.below HBC.out)
      clear y0 y1 y2 y3 y4 y5 y6
      cases lb with
      | false =>
        have HNO := hide (growTo_no (l := l) (k := k) (by unfold grw; rw [HLB.out]; rfl))
        go_wp2_with fail
        go_roundw
        case rel => exact ⟨k + 1, v5, by go_num, rfl, by omega, by rw [HNO.out]; exact HOY, HBY⟩
        case measure => simp [intOf]; omega
      | true =>
        cases ha : noneB solidG (l.take k) with
        | true =>
          have HNO := hide (growTo_no (l := l) (k := k) (by unfold grw; rw [ha]; simp))
          have HA := hide ha
          clear ha
          go_wp2_with (go_at_call 53; refine (ContainsFunc_box solidG 61 (fun _ _ => rfl) solidG_tests (some ⟨b, off, none⟩) k c (l.take k) ok _ (rd_high (HR.out.below HBY.out) (by omega)) (by omega) (lens_take HLEN.out k)).mono ?_; rw [HA.out]; rintro e w2 ⟨rfl, q⟩; have Q := hide q; clear q)
          go_roundw
          case rel => exact ⟨k + 1, v5, by go_num, rfl, by omega, by rw [HNO.out]; exact hide (HOY.out.below Q.out), hide (below_self HBY.out Q.out)⟩
          case measure => simp [intOf]; omega
        | false =>
          have HA := hide ha
          clear ha
          cases hd : noneB solidG (l.drop (k + 1)) with
          | true =>
            have HNO := hide (growTo_no (l := l) (k := k) (by unfold grw; rw [hd]; simp))
            have HD := hide hd
            clear hd
            go_wp2_with (first
              | (go_at_call 53
                 refine (ContainsFunc_box solidG 61 (fun _ _ => rfl) solidG_tests (some ⟨b, off, none⟩) k c (l.take k) ok _ (rd_high (HR.out.below HBY.out) (by omega)) (by omega) (lens_take HLEN.out k)).mono ?_
                 rw [HA.out]
                 rintro e w2 ⟨rfl, q⟩
                 have Q := hide (below_self HBY.out q)
                 have Q0 := hide q
                 clear q)
              | (go_at_call 53
                 refine (ContainsFunc_box solidG 61 (fun _ _ => rfl) solidG_tests (cutA (some ⟨b, off, none⟩) c (k + 1)) (n - (k + 1)) (c - (k + 1)) (l.drop (k + 1)) ok _ (rd_low (HR.out.below Q.out) (by omega) hc) (by omega) (lens_drop HLEN.out (k + 1))).mono ?_
                 rw [HD.out]
                 rintro e w3 ⟨rfl, q⟩
                 have Q2 := hide (below_self Q.out q)
                 have Q3 := hide (below_self Q0.out q)
                 clear q))
            go_roundw
            case rel => exact ⟨k + 1, v5, by go_num, rfl, by omega, by rw [HNO.out]; exact hide (HOY.out.below Q3.out), Q2⟩
            case measure => simp [intOf]; omega
          | false =>
            have HYES := hide (growTo_yes (l := l) (k := k) (by unfold grw; rw [HLB.out, HA.out, hd]; rfl))
            have HD := hide hd
            clear hd
            have hpl := growTo_len l k
            have HPL := hide hpl
            clear hpl
            go_upto_region 9 with (first
              | (go_at_call 53
                 refine (ContainsFunc_box solidG 61 (fun _ _ => rfl) solidG_tests (some ⟨b, off, none⟩) k c (l.take k) ok _ (rd_high (HR.out.below HBY.out) (by omega)) (by omega) (lens_take HLEN.out k)).mono ?_
                 rw [HA.out]
                 rintro e w2 ⟨rfl, q⟩
                 have Q := hide (below_self HBY.out q)
                 have Q0 := hide q
                 clear q)
              | (go_at_call 53
                 refine (ContainsFunc_box solidG 61 (fun _ _ => rfl) solidG_tests (cutA (some ⟨b, off, none⟩) c (k + 1)) (n - (k + 1)) (c - (k + 1)) (l.drop (k + 1)) ok _ (rd_low (HR.out.below Q.out) (by omega) hc) (by omega) (lens_drop HLEN.out (k + 1))).mono ?_
                 rw [HD.out]
                 rintro e w3 ⟨rfl, q⟩
                 have Q2 := hide (below_self Q.out q)
                 have Q3 := hide (below_self Q0.out q)
                 clear q))
            have HO3 := hide (HOY.out.below Q3.out)
            go_wp2_with (at_builtin
                         refine wpList_append_one (ok := fun _ => False) (base := w.heap.size) w3 Kind.int rfl _ _ 22 rfl 3 _ 8 Try.underlying22 info_int rfl (by decide) (by decide) v5 (growTo l k) rfl HO3.out (k : Int) [.int .i64 (k : Int)] rfl rfl (fun _ h => h.elim) (by have := HPL.out; omega) Q2.out.size ?_
                         intro v9 w4 q1 q2 q3
                         have HO4 := hide q1
                         have HB4 := hide (Q2.out.grown q2 Q2.out.size (fun j hj => (HO3.out.lt j hj).1))
                         clear q1 q2 q3)
            go_roundw
            case rel => exact ⟨k + 1, v9, by go_num, rfl, by omega, by rw [HYES.out]; exact HO4, HB4⟩
            case measure => simp [intOf]; omega
    · have hk2 : k = n := by omega
      have ho := HO.out
      rw [hk2, ← HLN.out] at ho
      have HOF := hide ho
      clear ho hk2
      go_wp2_with fail
      go_ret
      exact ⟨_, rfl, HOF.out, HB.out⟩
end Go.Proofs.YteadghhmoggjnaaB
end
section
namespace Go.Proofs.YteadghhmoggjnaaB
open Go.RowKit
open Go.Proofs.Yteadghhmoggjnaa.Q (S33 k33 z33 k33_open k33_mk k33_mkM k33_openF)
open Go.Proofs.YteadghhmoggjnaaW.PrintWords (Kd ReadsRow)
set_option maxHeartbeats 1600000
set_option maxRecDepth 1000000
def counts (x : S33) : Bool := (x.f0 == 0) || (x.f0 == 1) || (x.f0 == 2) || (x.f0 == 4) || (x.f0 == 6)
def widthStep (n : Int) (x : S33) : Int := if counts x = true then wrap64 (n + x.f1) else n
def widthW (l : List S33) : Int := l.foldl widthStep 0
theorem width_snoc {l : List S33} {k : Nat} {x : S33} (h : l[k]? = some x) : widthW (l.take (k + 1)) = widthStep (widthW (l.take k)) x := by
 obtain ⟨hk, rfl⟩ := List.getElem?_eq_some_iff.1 h
 unfold widthW
 rw [List.take_succ_eq_append_getElem hk, List.foldl_append]
 rfl
theorem width_yes {l : List S33} {k : Nat} {x : S33} (h : l[k]? = some x) (hc : counts x = true) : widthW (l.take (k + 1)) = wrap64 (widthW (l.take k) + x.f1) := by
 rw [width_snoc h]; unfold widthStep; rw [if_pos hc]
theorem width_no {l : List S33} {k : Nat} {x : S33} (h : l[k]? = some x) (hc : counts x = false) : widthW (l.take (k + 1)) = widthW (l.take k) := by
 rw [width_snoc h]; unfold widthStep; rw [hc]; rfl
theorem Width_any (A : Option Addr) (n c : Nat) (l : List S33) (ok : Nat → Prop) (w : World) (hr : boxK.Rd w ok A n l) (hn : n ≤ 9223372036854775807) :
  Calls Try.prog 33 #[.slice A n c] w fun e w' => e = .returned (.int .i64 (widthW l)) ∧ Below w.heap.size w w' := by
 have HR := hide hr
 have hln : l.length = n := hr.1
 have HLN := hide hln
 clear hr hln
 go_enter Try.func33, Try.ntmps33
 go_wp2_with fail
 go_loopw [3, 5, 8, 14] (fun t3 _ t8 _ wr => ∃ (k : Nat) (v : Int), t8 = .int .i64 k ∧ t3 = .int .i64 v ∧ k ≤ n ∧ Hid (widthW (l.take k) = v) ∧ Hid (Below w.heap.size w wr)) (fun _ _ t8 _ _ => n - (intOf t8).toNat)
 case atStart => exact ⟨0, 0, rfl, rfl, Nat.zero_le _, hide rfl, hide (Below.refl _ _)⟩
 case round =>
  obtain ⟨k, v, rfl, rfl, hk, HV, HB⟩ := hrel
  by_cases hlt : k < n
  ·obtain ⟨x, hx⟩ : ∃ x, l[k]? = some x := ⟨_, List.getElem?_eq_getElem (by have := HLN.out; omega)⟩
   obtain ⟨b, off, A5, c5, rfl, -, -, -, z0, z1, z2, z3, z4, z5, z6⟩ := box_cells (HR.out.below HB.out) hx
   have HY := hide (fun h => width_yes (l := l) hx h)
   have HN := hide (fun h => width_no (l := l) hx h)
   have HC : Hid (counts x = ((x.f0 == 0) || (x.f0 == 1) || (x.f0 == 2) || (x.f0 == 4) || (x.f0 == 6))) := hide rfl
   clear hx
   go_upto_region 5 with fail
   have hba := below_a (w := wr) (.cells #[.int .i64 x.f0, .int .i64 x.f1, .int .i64 x.f2, .int .i64 x.f3, .string x.f4, .string x.f5, .slice A5 x.f6.length c5] 33)
   have hbx := below_self HB.out hba
   have hcx := blk_new wr (.cells #[.int .i64 x.f0, .int .i64 x.f1, .int .i64 x.f2, .int .i64 x.f3, .string x.f4, .string x.f5, .slice A5 x.f6.length c5] 33)
   obtain ⟨gb, hgb⟩ : ∃ gb, gb = wr.heap.size := ⟨_, rfl⟩
   generalize (wr.alloc (.cells #[.int .i64 x.f0, .int .i64 x.f1, .int .i64 x.f2, .int .i64 x.f3, .string x.f4, .string x.f5, .slice A5 x.f6.length c5] 33)) = w1 at hbx hcx hba ⊢
   rw [← hgb] at hcx ⊢
   have y0 : w1.cell? ⟨gb, 0, none⟩ = some (.int .i64 x.f0) := by rw [blk_cell hcx]; rfl
   have y1 : w1.cell? ⟨gb, 1, none⟩ = some (.int .i64 x.f1) := by rw [blk_cell hcx]; rfl
   have HBX := hide hbx
   clear hba hbx hcx hgb z0 z1 z2 z3 z4 z5 z6
   generalize x.f1 = wd at y1 HY
   generalize x.f0 = kd at y0 HC
   by_cases h0 : kd = 0
   ·subst h0
    go_wp2_with fail
    go_roundw
    case rel => exact ⟨k + 1, _, by go_num, rfl, by omega, hide (by rw [HY.out (by rw [HC.out]; rfl), HV.out]), HBX⟩
    case measure => simp [intOf]; omega
   by_cases h1 : kd = 1
   ·subst h1
    go_wp2_with fail
    go_roundw
    case rel => exact ⟨k + 1, _, by go_num, rfl, by omega, hide (by rw [HY.out (by rw [HC.out]; rfl), HV.out]), HBX⟩
    case measure => simp [intOf]; omega
   by_cases h2 : kd = 2
   ·subst h2
    go_wp2_with fail
    go_roundw
    case rel => exact ⟨k + 1, _, by go_num, rfl, by omega, hide (by rw [HY.out (by rw [HC.out]; rfl), HV.out]), HBX⟩
    case measure => simp [intOf]; omega
   by_cases h4 : kd = 4
   ·subst h4
    go_wp2_with fail
    go_roundw
    case rel => exact ⟨k + 1, _, by go_num, rfl, by omega, hide (by rw [HY.out (by rw [HC.out]; rfl), HV.out]), HBX⟩
    case measure => simp [intOf]; omega
   by_cases h6 : kd = 6
   ·subst h6
    go_wp2_with fail
    go_roundw
    case rel => exact ⟨k + 1, _, by go_num, rfl, by omega, hide (by rw [HY.out (by rw [HC.out]; rfl), HV.out]), HBX⟩
    case measure => simp [intOf]; omega
   have HNC := hide (HN.out (by rw [HC.out]; simp [h0, h1, h2, h4, h6]))
   go_wp2_with fail
   go_roundw
   case rel => exact ⟨k + 1, v, by go_num, rfl, by omega, hide (by rw [HNC.out, HV.out]), HBX⟩
   case measure => simp [intOf]; omega
  ·have hv := HV.out
   rw [List.take_of_length_le (by have := HLN.out; omega)] at hv
   have HVF := hide hv
   clear hv
   go_wp2_with fail
   go_ret
   exact ⟨ret_int HVF.out.symm, HB.out⟩
def Owned (w : World) (base : Nat) (v : Value) (l : List S33) : Prop :=
 (l = [] ∧ ∃ A c, v = .slice A 0 c ∧ Kd.S k33 33 w base (fun _ => True) v []) ∨
 ∃ g c I n, v = .slice (some ⟨g, 0, none⟩) l.length c ∧ 0 < l.length ∧ base ≤ g ∧ l.length ≤ c ∧ (markK base).RowAt 33 w (fun k => k ≠ g) g c (marks l I) ∧ I.length = l.length ∧ Chain I n
theorem Owned.S {w : World} {base : Nat} {v : Value} {l : List S33} (h : Owned w base v l) : Kd.S k33 33 w base (fun _ => True) v l := by
 rcases h with ⟨rfl, A, c, -, h⟩ | ⟨g, c, I, n, rfl, -, hg, -, hr, hI, hc⟩
 ·exact h
 ·exact own_S hr hI hc hg
theorem marks_rd {w : World} {base g c : Nat} {l : List S33} {I : List (Nat × Nat)} {ok : Nat → Prop} (h : (markK base).RowAt 33 w ok g c (marks l I)) (hI : I.length = l.length) : boxK.Rd w (fun _ => True) (some ⟨g, 0, none⟩) l.length l := by
 refine ⟨rfl, fun hp => ⟨g, 0, rfl, trivial, h.lt, fun i x hx => ?_⟩⟩
 obtain ⟨q, hq, hm⟩ := marks_all hI hx
 obtain ⟨cs, hcs, hcell⟩ := h.cells' hm
 rcases hcs with ⟨h0, -⟩ | ⟨p, v, h0, rfl, -, h2, h3⟩
 ·cases h0
 ·obtain ⟨A9, c9, e9, h1, -, -, -, h5⟩ := h2.form
  subst e9
  refine ⟨_, ⟨A9, c9, rfl, h1, h5.weaken (fun _ _ => trivial)⟩, fun j u hu => ?_⟩
  have := hcell j u hu
  rw [Nat.zero_add]
  exact this
theorem Owned.rd {w : World} {base : Nat} {v : Value} {l : List S33} (h : Owned w base v l) : ∃ A c, v = .slice A l.length c ∧ l.length ≤ c ∧ boxK.Rd w (fun _ => True) A l.length l := by
 rcases h with ⟨rfl, A, c, rfl, h⟩ | ⟨g, c, I, n, rfl, -, hg, hlc, hr, hI, hc⟩
 ·exact ⟨A, c, rfl, Nat.zero_le _, Kind.Rd.nil _ _ _ _⟩
 ·exact ⟨_, c, rfl, hlc, marks_rd hr hI⟩
theorem Owned.below {w w' : World} {base : Nat} {v : Value} {l : List S33} (h : Owned w base v l) (hb : Below w.heap.size w w') : Owned w' base v l := by
 rcases h with ⟨rfl, A, c, rfl, h⟩ | ⟨g, c, I, n, rfl, hp, hg, hlc, hr, hI, hc⟩
 ·exact .inl ⟨rfl, A, c, rfl, Go.Proofs.YteadghhmoggjnaaW.PrintWords.Kd.S_below h hb⟩
 ·exact .inr ⟨g, c, I, n, rfl, hp, hg, hlc, hr.below hb, hI, hc⟩
theorem own_row (A : Option Addr) (n c : Nat) (l : List S33) (ok : Nat → Prop) (w : World) (hr : boxK.Rd w ok A n l) (hn : n ≤ 1000000000000) (hsz : ∀ y ∈ l, y.f6.length ≤ 17592186044416) :
    Calls Try.prog 32 #[.slice A n c] w fun e w' => ∃ v, e = .returned v ∧ Owned w' w.heap.size v l ∧ Below w.heap.size w w' := by
  have HR := hide hr
  have HSZ := hide hsz
  have hm : maxLen = 9223372036854775807 := rfl
  have HM := hide hm
  clear hr hsz hm
  go_enter Try.func32, Try.ntmps32
  go_upto_region 2 with (go_at_call 58; refine (Clone_box A n c l ok _ HR.out hn).mono ?_; rintro e w1 ⟨v1, rfl, q1, q2⟩; obtain ⟨A1, c1, rfl, hl1, -, -, -, -⟩ := Kind.Own.form q1; have HL1 := hide hl1; have HO1 := hide q1; have Q2 := hide q2; clear q1 q2 hl1)
  have hln : l.length ≤ 1000000000000 := by have := HR.out.1; omega
  have HLN := hide hln
  rcases Nat.eq_zero_or_pos l.length with h0 | h0
  · have hl : l = [] := List.eq_nil_of_length_eq_zero h0
    subst hl
    clear h0 hln
    go_wp2_with fail
    go_loopw [4, 9] (fun _ t9 wr => t9 = .int .i64 0 ∧ w1 = wr) (fun _ _ _ => 0)
    case atStart => exact ⟨rfl, rfl⟩
    case round =>
      obtain ⟨rfl, rfl⟩ := hrel
      go_wp2_with fail
      go_ret
      obtain ⟨xs, ho, hr⟩ := HO1.out
      exact ⟨_, rfl, .inl ⟨rfl, _, _, rfl, ⟨fun _ => 0, fun _ _ => trivial, xs, ho, hr.1, fun j p hj => by simp at hj⟩⟩, Q2.out⟩
  obtain ⟨g1, rfl, -, hg1, hrow⟩ := HO1.out.rowAt h0
  have HG1 := hide hg1
  have hm0 : (markK w.heap.size).RowAt 33 w1 (fun k => k ≠ g1) g1 c1 (marks l []) := by
    rw [marks_zero]
    obtain ⟨cur, e1, e2, e3, e4, e5, e6⟩ := hrow
    refine ⟨cur, e1, e2, by simpa using e3, e4, by rw [List.length_map]; exact e5, fun i x hx => ?_⟩
    rw [List.getElem?_map] at hx
    cases hy : l[i]? with
    | none => rw [hy] at hx; cases hx
    | some y =>
      rw [hy] at hx
      injection hx with hx
      subst hx
      have := e6 i y hy
      rw [List.length_map]
      exact .inl ⟨rfl, boxK.weaken (fun k hk => ⟨by omega, hk.2⟩) this⟩
  have HM0 := hide hm0
  have HP0 := hide h0
  clear hrow hm0 HO1 hg1
  go_wp2_with fail
  go_loopw [4, 9] (fun _ t9 wr => ∃ I : List (Nat × Nat), t9 = .int .i64 I.length ∧ I.length ≤ l.length ∧ Hid ((markK w.heap.size).RowAt 33 wr (fun k => k ≠ g1) g1 c1 (marks l I)) ∧ Hid (Chain I wr.heap.size) ∧ Hid (Below w.heap.size w wr)) (fun _ t9 _ => l.length - (intOf t9).toNat)
  case atStart => exact ⟨[], rfl, Nat.zero_le _, HM0, hide (Chain.nil _), Q2⟩
  case round =>
    obtain ⟨I, rfl, hi, HRW, HC, HB⟩ := hrel
    obtain ⟨i, hiI⟩ : ∃ i, i = I.length := ⟨_, rfl⟩
    rw [← hiI] at hi ⊢
    have HII := hide hiI
    clear hiI
    by_cases hlt : i < l.length
    · obtain ⟨x, hx⟩ : ∃ x, l[i]? = some x := ⟨_, List.getElem?_eq_getElem hlt⟩
      have hb1 := HSZ.out x (List.mem_of_getElem? hx)
      have hx' := hx
      rw [HII.out] at hx'
      have hmk := marks_at hx'
      obtain ⟨cs, hcs, hcell⟩ := HRW.out.cells' hmk
      rcases hcs with ⟨-, A5, c5, rfl, hl5, hr5⟩ | ⟨p, v, h, -⟩
      rotate_left
      · cases h
      rw [← HII.out] at hcell
      have z4 : wr.cell? ⟨g1, i * 7 + 6, none⟩ = some (.slice A5 x.f6.length c5) := hcell 6 _ rfl
      have HR5 := hide hr5
      have HX := hide hx'
      have zf := HRW.out.frozen (i * 7 + 6)
      clear hx hx' hmk hcell hr5
      go_wp2_with (go_at_call 59
                   refine (Clone_int A5 x.f6.length c5 x.f6 _ _ HR5.out hb1).mono ?_
                   rintro e w2 ⟨v2, rfl, q1, q2⟩
                   have HRW2 := hide (HRW.out.below q2)
                   have zf2 := HRW2.out.frozen (i * 7 + 6)
                   have z42 := cell_stays q2 z4
                   obtain ⟨A6, c6, rfl, hl6, hc6, -, -, -⟩ := Kind.Own.form q1
                   have HO2 := hide q1
                   have Q3 := hide q2
                   clear q1 q2 hc6 hl6)
      have hg1lt : g1 < wr.heap.size := HRW.out.lt
      have hwb : w.heap.size ≤ wr.heap.size := HB.out.size
      have hrow2 : (markK w.heap.size).RowAt 33 (w2.setCell ⟨g1, i * 7 + 6, none⟩ (.slice A6 x.f6.length c6)) (fun k => k ≠ g1) g1 c1 (marks l (I ++ [(wr.heap.size, w2.heap.size)])) := by
        rw [← marks_set (wr.heap.size, w2.heap.size) HX.out]
        have hil : I.length < (marks l I).length := by rw [marks_length _ _ (by have := HII.out; omega)]; have := HII.out; omega
        have hix : (marks l I)[I.length] = (x, none) := (List.getElem?_eq_some_iff.1 (marks_at HX.out)).2
        have := HRW2.out.field (i := I.length) (j := 6) (v := .slice A6 x.f6.length c6) (y := (x, some (wr.heap.size, w2.heap.size))) hil (show 6 < 7 by omega) (fun cs hcs => ?_) (fun k hk => hk)
        · rw [HII.out]; exact this
        · rw [hix] at hcs
          rcases hcs with ⟨-, A7, c7, rfl, -, -⟩ | ⟨p, v, h, -⟩
          · refine .inr ⟨_, .slice A6 x.f6.length c6, rfl, rfl, rfl, (own_int HO2.out).lower hwb, fun k hk => ?_⟩
            have := HO2.out.lt k hk
            exact ⟨by omega, this.1, this.2⟩
          · cases h
      have hszz : (w2.setCell ⟨g1, i * 7 + 6, none⟩ (.slice A6 x.f6.length c6)).heap.size = w2.heap.size := by simp [World.setCell]
      have hch : Chain (I ++ [(wr.heap.size, w2.heap.size)]) (w2.setCell ⟨g1, i * 7 + 6, none⟩ (.slice A6 x.f6.length c6)).heap.size := by rw [hszz]; exact HC.out.snoc Q3.out.size
      have hbb : Below w.heap.size w (w2.setCell ⟨g1, i * 7 + 6, none⟩ (.slice A6 x.f6.length c6)) := Below.setCell (below_self HB.out Q3.out) HG1.out _
      have HROW2 := hide hrow2
      have HCH := hide hch
      have HBB := hide hbb
      have hlen : (I ++ [(wr.heap.size, w2.heap.size)]).length = i + 1 := by rw [HII.out]; simp
      have HLEN := hide hlen
      clear hrow2 hch hbb hszz hlen
      go_wp2_with fail
      go_roundw
      case rel => exact ⟨_, by rw [HLEN.out]; go_num, by rw [HLEN.out]; omega, HROW2, HCH, HBB⟩
      case measure => simp [intOf]; omega
    · have hin : I.length = l.length := by have := HII.out; omega
      have HS : Hid (Owned wr w.heap.size (.slice (some ⟨g1, 0, none⟩) l.length c1) l) := hide (.inr ⟨g1, c1, I, _, rfl, HP0.out, HG1.out, HL1.out, HRW.out, hin, HC.out⟩)
      clear hin
      go_wp2_with fail
      go_ret
      exact ⟨_, rfl, HS.out, HB.out⟩
theorem Adjust1_any (n : Int) (w : World) : Calls Try.prog 27 #[.int .i64 n] w fun e w' => e = .returned (.int .i64 0) ∧ w = w' := by
 go_enter Try.func27, Try.ntmps27
 go_wp2_with fail
 go_ret
 exact ⟨rfl, rfl⟩
theorem Adjust2_any (n : Int) (w : World) : Calls Try.prog 28 #[.int .i64 n] w fun e w' => e = .returned (.int .i64 0) ∧ w = w' := by
 go_enter Try.func28, Try.ntmps28
 go_wp2_with fail
 go_ret
 exact ⟨rfl, rfl⟩
def most0 (n : Int) : Int := if n < 0 then 0 else n
theorem Adjust3_any (n : Int) (w : World) : Calls Try.prog 29 #[.int .i64 n] w fun e w' => e = .returned (.int .i64 (most0 n)) ∧ w = w' := by
 by_cases h : n < 0
 ·have HM : Hid (most0 n = 0) := hide (by unfold most0; rw [if_pos h])
  go_enter Try.func29, Try.ntmps29
  go_wp2_with fail
  all_goals go_ret
  all_goals exact ⟨ret_int (by rw [HM.out] <;> omega), rfl⟩
 ·have HM : Hid (most0 n = n) := hide (by unfold most0; rw [if_neg h])
  have h' : 0 ≤ n := by omega
  go_enter Try.func29, Try.ntmps29
  go_wp2_with fail
  all_goals go_ret
  all_goals exact ⟨ret_int (by rw [HM.out] <;> omega), rfl⟩
theorem and_one (n : Int) (h0 : 0 ≤ n) (h1 : n < 4611686018427387904) : bits .and .i64 n 1 = n % 2 :=
 bits_mask .i64 62 (by decide) (fun m h0 h1 => by rw [IntKind.wrap_i64]; omega) 1 (by decide) n h0 h1
theorem half_any (n : Int) (w : World) (h0 : 0 ≤ n) (h1 : n ≤ 1000000000000) : Calls Try.prog 31 #[.int .i64 n] w fun e w' => e = .returned (.int .i64 (n / 2)) ∧ w = w' := by
 have ha := and_one n h0 (by omega)
 go_enter Try.func31, Try.ntmps31
 go_wp2_with fail
 go_ret
 exact ⟨ret_int (by first | rfl | omega | (unfold wrap64; omega)), rfl⟩
theorem most0_range (n : Int) : 0 ≤ most0 n ∧ (n ≤ 1000000000000 → most0 n ≤ 1000000000000) := by
 unfold most0
 split <;> omega
theorem Adjust4_any (n : Int) (w : World) (hn : n ≤ 1000000000000) : Calls Try.prog 30 #[.int .i64 n] w fun e w' => e = .returned (.int .i64 (most0 n / 2)) ∧ w = w' := by
 have hr := most0_range n
 have HH := hide (half_any (most0 n) w hr.1 (hr.2 hn))
 clear hr
 by_cases h : n < 0
 ·have hm : most0 n = 0 := by unfold most0; rw [if_pos h]
  rw [hm] at HH ⊢
  clear hm
  go_enter Try.func30, Try.ntmps30
  go_wp2_with (go_at_call 31; refine HH.out.mono ?_; rintro e w2 ⟨rfl, rfl⟩)
  all_goals go_ret
  all_goals exact ⟨rfl, rfl⟩
 ·have hm : most0 n = n := by unfold most0; rw [if_neg h]
  rw [hm] at HH ⊢
  clear hm
  have h' : 0 ≤ n := by omega
  by_cases h0 : n = 0
  ·subst h0
   go_enter Try.func30, Try.ntmps30
   go_wp2_with (go_at_call 31; refine HH.out.mono ?_; rintro e w2 ⟨rfl, rfl⟩)
   all_goals go_ret
   all_goals exact ⟨rfl, rfl⟩
  ·have h2 : 0 < n := by omega
   clear h0
   go_enter Try.func30, Try.ntmps30
   go_wp2_with (go_at_call 31; refine HH.out.mono ?_; rintro e w2 ⟨rfl, rfl⟩)
   all_goals go_ret
   all_goals exact ⟨rfl, rfl⟩
end Go.Proofs.YteadghhmoggjnaaB
end
end
