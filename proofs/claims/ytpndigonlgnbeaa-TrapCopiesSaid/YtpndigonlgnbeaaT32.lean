/- The document's table: Plant, Move. -/
import Derived.Test.YtpndigonlgnbeaaT31
set_option linter.unusedVariables false
set_option linter.unusedSimpArgs false
namespace Go.Proofs.Ytpndigonlgnbeaa
open Go.RowKit
set_option maxHeartbeats 1600000
set_option maxRecDepth 1000000

theorem RPlant_tab (base g : Nat) (v : Value) (ts : List TrapT) (a : Int) (s : ByteArray) (w : World) (hT : RTab base w g v ts) (hn : ts.length ≤ 1000000) (hbase : base ≤ w.heap.size) (hs : s.size ≤ 9223372036854775807) :
    Calls Try.prog 34 #[.pointer (some ⟨g, 0, none⟩), .int .i64 a, .string s] w fun e w' => e = .returned (.int .i64 (plantP a s ts).1) ∧ RMut base w w' g v (plantP a s ts).2 := by
  have h1 := hT.c0
  have HT := hide hT
  clear hT
  cases hf : farB a with
  | true =>
    have e : plantP a s ts = (1, ts) := by unfold plantP; rw [if_pos hf]
    rw [e]
    clear e
    go_enter Try.func34, Try.ntmps34
    go_wp2_with (first
      | (go_at_call 47; refine (no_some _ _ _ h1).mono ?_; rintro e w' ⟨rfl, rfl⟩)
      | (go_at_call 57; refine (place_any _ _).mono ?_; rintro e w' ⟨rfl, rfl⟩))
    go_ret
    exact ⟨rfl, RMut.same HT.out (Below.refl _ _)⟩
  | false =>
  cases hnm : nameB s with
  | false =>
    have e : plantP a s ts = (6, ts) := by unfold plantP; rw [if_neg (by simp [hf]), if_pos hnm]
    rw [e]
    clear e
    go_enter Try.func34, Try.ntmps34
    go_wp2_with (first
      | (go_at_call 47; refine (no_some _ _ _ h1).mono ?_; rintro e w' ⟨rfl, rfl⟩)
      | (go_at_call 57; refine (place_any _ _).mono ?_; rintro e w' ⟨rfl, rfl⟩)
      | (go_at_call 58; refine (IsName_any _ _ hs).mono ?_; rintro e w2 ⟨rfl, rfl⟩))
    go_ret
    exact ⟨rfl, RMut.same HT.out (Below.refl _ _)⟩
  | true =>
  obtain ⟨A, c, rfl, -, -, -, -, hrd⟩ := HT.out.own.form
  have HR := hide hrd
  have h2 := HT.out.c1
  clear hrd
  by_cases hfull : 100 ≤ ts.length
  · have e : plantP a s ts = (9, ts) := by unfold plantP; rw [if_neg (by simp [hf]), if_neg (by simp [hnm]), if_pos hfull]
    rw [e]
    clear e
    go_enter Try.func34, Try.ntmps34
    go_wp2_with (first
      | (go_at_call 47; refine (no_some _ _ _ h1).mono ?_; rintro e w' ⟨rfl, rfl⟩)
      | (go_at_call 57; refine (place_any _ _).mono ?_; rintro e w' ⟨rfl, rfl⟩)
      | (go_at_call 58; refine (IsName_any _ _ hs).mono ?_; rintro e w2 ⟨rfl, rfl⟩))
    go_ret
    exact ⟨rfl, RMut.same HT.out (Below.refl _ _)⟩
  · have e : plantP a s ts = (0, ts ++ [⟨a, s⟩]) := by unfold plantP; rw [if_neg (by simp [hf]), if_neg (by simp [hnm]), if_neg hfull]
    rw [e]
    clear e
    have h3 := (HT.out.below (below_one (.cells #[] 84))).c1
    go_enter Try.func34, Try.ntmps34
    go_upto_region 7 with (first
      | (go_at_call 47; refine (no_some _ _ _ h1).mono ?_; rintro e w' ⟨rfl, rfl⟩)
      | (go_at_call 57; refine (place_any _ _).mono ?_; rintro e w' ⟨rfl, rfl⟩)
      | (go_at_call 58; refine (IsName_any _ _ hs).mono ?_; rintro e w2 ⟨rfl, rfl⟩))
    go_wp2_with (first
      | (at_builtin; refine wpList_copy w rfl _ _ 66 rfl 84 _ Try.underlying66 info_rtrap rfl _ rfl rfl A ts.length c ts rfl HR.out (by omega) ?_; intro v1 w1 q1 q2; have Q1 := hide q1; have Q2 := hide q2; clear q1 q2)
      | (at_builtin
         refine wpList_append_one_at (ok := fun _ => False) (base := w.heap.size) w1 trapK rfl _ _ 66 rfl 84 _ 24 Try.underlying66 info_rtrap rfl (by decide) (by decide) v1 ts rfl Q1.out (⟨a, s⟩ : TrapT) [.int .i64 a, .string s] _ rfl rfl rfl (fun k h => h.elim) (by omega) Q2.out.size ?_
         intro v3 w3 hown3 hg3 hat3
         obtain ⟨A3, c3, rfl, -, -, -, -, -⟩ := Kind.Own.form hown3
         have hb3 := Q2.out.grown hg3 Q2.out.size (fun j hj => (Q1.out.lt j hj).1)
         have z0 := (HT.out.below hb3).c1
         have z1 := (HT.out.below hb3).frozen 1
         have HB3 := hide hb3
         have HO3 := hide hown3
         clear hown3 hg3 hat3 hb3))
    go_ret
    have hlen : (ts ++ [(⟨a, s⟩ : TrapT)]).length = ts.length + 1 := by simp
    have ho3 := HO3.out
    have hr := RMut.put HT.out hbase HB3.out ho3
    rw [hlen] at hr
    exact ⟨rfl, hr⟩

theorem RMove_tab (base g : Nat) (v : Value) (ts : List TrapT) (s : ByteArray) (a : Int) (w : World) (hT : RTab base w g v ts) (hn : ts.length ≤ 1000000) (hbase : base ≤ w.heap.size) (hs : s.size ≤ 9223372036854775807) :
    Calls Try.prog 36 #[.pointer (some ⟨g, 0, none⟩), .string s, .int .i64 a] w fun e w' => e = .returned (.int .i64 (moveP s a ts).1) ∧ RMut base w w' g v (moveP s a ts).2 := by
  have h1 := hT.c0
  have HT := hide hT
  clear hT
  cases hf : farB a with
  | true =>
    rw [moveP_far hf]
    go_enter Try.func36, Try.ntmps36
    go_wp2_with (first
      | (go_at_call 47; refine (no_some _ _ _ h1).mono ?_; rintro e w' ⟨rfl, rfl⟩)
      | (go_at_call 57; refine (place_any _ _).mono ?_; rintro e w' ⟨rfl, rfl⟩))
    go_ret
    exact ⟨rfl, RMut.same HT.out (Below.refl _ _)⟩
  | false =>
  cases hnm : nameB s with
  | false =>
    rw [moveP_name hf hnm]
    go_enter Try.func36, Try.ntmps36
    go_wp2_with (first
      | (go_at_call 47; refine (no_some _ _ _ h1).mono ?_; rintro e w' ⟨rfl, rfl⟩)
      | (go_at_call 57; refine (place_any _ _).mono ?_; rintro e w' ⟨rfl, rfl⟩)
      | (go_at_call 58; refine (IsName_any _ _ hs).mono ?_; rintro e w2 ⟨rfl, rfl⟩))
    go_ret
    exact ⟨rfl, RMut.same HT.out (Below.refl _ _)⟩
  | true =>
  obtain ⟨A, c, rfl, -, -, -, -, hrd⟩ := HT.out.own.form
  have HR := hide hrd
  clear hrd
  have h3 := (HT.out.below (below_one (.cells #[] 84))).c1
  rcases idxI_cases (fun x : TrapT => x.nm.toList == s.toList) ts with ⟨hi, hall⟩ | ⟨k, hk, hi, hq, hno⟩
  · rw [moveP_none hf hnm hall]
    have HALL := hide hall
    clear hi hall
    go_enter Try.func36, Try.ntmps36
    go_wp2_with (first
      | (go_at_call 47; refine (no_some _ _ _ h1).mono ?_; rintro e w' ⟨rfl, rfl⟩)
      | (go_at_call 57; refine (place_any _ _).mono ?_; rintro e w' ⟨rfl, rfl⟩)
      | (go_at_call 58; refine (IsName_any _ _ hs).mono ?_; rintro e w2 ⟨rfl, rfl⟩)
      | (at_builtin; refine wpList_copy w rfl _ _ 66 rfl 84 _ Try.underlying66 info_rtrap rfl _ rfl rfl A ts.length c ts rfl HR.out (by omega) ?_; intro v1 w1 q1 q2; obtain ⟨A1, c1, rfl, -, -, -, -, q3⟩ := Kind.Own.form q1; have HR1 := hide q3; have Q2 := hide q2; clear q1 q2 q3))
    go_loopw [8] (fun t8 wr => ∃ i : Nat, t8 = .int .i64 i ∧ i ≤ ts.length ∧ w1 = wr) (fun t8 _ => ts.length - (intOf t8).toNat)
    case atStart => exact ⟨0, rfl, Nat.zero_le _, rfl⟩
    case round =>
      obtain ⟨i, rfl, hi, rfl⟩ := hrel
      by_cases hlt : i < ts.length
      · obtain ⟨x, hx⟩ : ∃ x, ts[i]? = some x := ⟨_, List.getElem?_eq_getElem hlt⟩
        obtain ⟨b, off, rfl, x0, x1⟩ := rd_trap HR1.out hx
        have hxs := HALL.out x (List.mem_of_getElem? hx)
        clear hx
        go_wp2_with fail
        go_roundw
        case rel => exact ⟨i + 1, by go_num, by omega, by first | rfl | trivial⟩
        case measure => simp [intOf]; omega
      · go_wp2_with fail
        go_ret
        exact ⟨rfl, RMut.same HT.out Q2.out⟩
  · rw [moveP_some hf hnm hk hq hno]
    obtain ⟨y, hy⟩ : ∃ y, y = ts[k] := ⟨_, rfl⟩
    rw [← hy]
    have hy' : ts[k]? = some y := by rw [hy]; exact List.getElem?_eq_getElem hk
    have hq' : (y.nm.toList == s.toList) = true := by rw [hy]; exact hq
    have HQ := hide hq'
    have HY := hide hy'
    have HNO := hide hno
    clear hi hno hy hy' hq hq'
    go_enter Try.func36, Try.ntmps36
    go_wp2_with (first
      | (go_at_call 47; refine (no_some _ _ _ h1).mono ?_; rintro e w' ⟨rfl, rfl⟩)
      | (go_at_call 57; refine (place_any _ _).mono ?_; rintro e w' ⟨rfl, rfl⟩)
      | (go_at_call 58; refine (IsName_any _ _ hs).mono ?_; rintro e w2 ⟨rfl, rfl⟩)
      | (at_builtin; refine wpList_copy w rfl _ _ 66 rfl 84 _ Try.underlying66 info_rtrap rfl _ rfl rfl A ts.length c ts rfl HR.out (by omega) ?_; intro v1 w1 q1 q2; obtain ⟨A1, c1, rfl, -, -, -, -, -⟩ := Kind.Own.form q1; obtain ⟨g1, rfl, -, hg1, q3⟩ := Kind.Own.rowAt q1 (by omega); have HG1 := hide hg1; have HR1 := hide q3; have Q2 := hide q2; clear q1 q2 q3 hg1))
    go_loopw [8] (fun t8 wr => ∃ i : Nat, t8 = .int .i64 i ∧ i ≤ k ∧ w1 = wr) (fun t8 _ => ts.length - (intOf t8).toNat)
    case atStart => exact ⟨0, rfl, Nat.zero_le _, rfl⟩
    case round =>
      obtain ⟨i, rfl, hi, rfl⟩ := hrel
      by_cases hlt : i < k
      · obtain ⟨x, hx⟩ : ∃ x, ts[i]? = some x := ⟨_, List.getElem?_eq_getElem (by omega)⟩
        obtain ⟨x0, x1, -, -⟩ := row_facts HR1.out hx
        have hxs := HNO.out i hlt
        have hxe : ts[i] = x := (List.getElem?_eq_some_iff.1 hx).2
        rw [hxe] at hxs
        clear hx hxe
        go_wp2_with fail
        go_roundw
        case rel => exact ⟨i + 1, by go_num, by omega, by first | rfl | trivial⟩
        case measure => simp [intOf]; omega
      · have hik : i = k := by omega
        subst hik
        obtain ⟨x0, x1, x2, -⟩ := row_facts HR1.out HY.out
        have hxs := HQ.out
        have z0 := (HT.out.below Q2.out).c1
        have z1 := (HT.out.below Q2.out).frozen 1
        have hgne : g ≠ g1 := by have := HT.out.lt; have := HG1.out; omega
        have HGNE := hide hgne
        clear hlt
        go_wp2_with fail
        go_ret
        have hrow := row_at HR1.out HY.out a
        have ho := hrow.own HG1.out
        have hb : Below w.heap.size w (w1.setCell ⟨g1, i * 2, none⟩ (.int .i64 a)) := (Q2.out.setCell (by exact HG1.out) _)
        have hr := RMut.put HT.out hbase hb ho
        rw [List.length_set] at hr
        exact ⟨rfl, hr⟩
end Go.Proofs.Ytpndigonlgnbeaa
