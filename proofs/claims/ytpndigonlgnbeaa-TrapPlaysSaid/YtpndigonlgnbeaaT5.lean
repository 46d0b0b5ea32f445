/- slices.insertionSortCmpFunc at traps. -/
import Derived.Test.YtpndigonlgnbeaaT4
set_option linter.unusedVariables false
set_option linter.unusedSimpArgs false
namespace Go.Proofs.Ytpndigonlgnbeaa
open Go.RowKit
set_option maxHeartbeats 800000
set_option maxRecDepth 100000

abbrev TK := TrapT.at_
theorem swp2_near {α : Type} (pre s0 Z : List α) (x y : α) (k : Nat) (hk : k = pre.length + s0.length) : swp2 (pre ++ ((s0 ++ [x]) ++ (y :: Z))) (k + 1) k y x = pre ++ (s0 ++ (y :: (x :: Z))) := by
  subst hk
  have hl : (pre ++ ((s0 ++ [x]) ++ (y :: Z))).length = pre.length + s0.length + 2 + Z.length := by simp; omega
  apply List.ext_getElem?
  intro i
  rw [swp2_get _ _ _ _ _ (by omega) (by omega) (by omega)]
  simp only [List.getElem?_append, List.length_append, List.length_singleton]
  by_cases h1 : i = pre.length + s0.length + 1
  · subst h1
    rw [if_pos rfl, if_neg (by omega), if_neg (by omega), show pre.length + s0.length + 1 - pre.length - s0.length = 1 from by omega]
    rfl
  · rw [if_neg h1]
    by_cases h2 : i = pre.length + s0.length
    · subst h2
      rw [if_pos rfl, if_neg (by omega), if_neg (by omega), show pre.length + s0.length - pre.length - s0.length = 0 from by omega]
      rfl
    · rw [if_neg h2]
      by_cases h3 : i < pre.length
      · rw [if_pos h3, if_pos h3]
      · rw [if_neg h3, if_neg h3]
        by_cases h4 : i - pre.length < s0.length
        · rw [if_pos (by omega), if_pos h4, if_pos h4]
        · rw [if_neg (by omega), if_neg h4]
          obtain ⟨d, hd⟩ : ∃ d, i = pre.length + s0.length + 2 + d := ⟨i - (pre.length + s0.length + 2), by omega⟩
          rw [show i - pre.length - (s0.length + 1) = d + 1 from by omega, show i - pre.length - s0.length = d + 2 from by omega]
          rfl

theorem insertion_trap (g0 c n a b : Nat) (ai bi : Int) (m pre L post : List TrapT) (w : World) (hn : n ≤ 1000000000000) (hR : trapK.RowAt 33 w (fun _ => False) g0 c m) (e1 : n = m.length)
    (hm : m = pre ++ (L ++ post)) (ha : a = pre.length) (hb : b = a + L.length) (e2 : ai = a) (e3 : bi = b) :
    Calls Try.prog 60 #[.slice (some ⟨g0, 0, none⟩) n c, .int .i64 ai, .int .i64 bi, .func (.func 28) #[] #[]] w fun e w' => e = .returned (.tuple #[]) ∧ trapK.RowAt 33 w' (fun _ => False) g0 c (pre ++ (TS.isort TK L ++ post)) ∧ Kept (fun i => i = g0) w w' := by
  subst e2 e3
  have hlen : n = pre.length + (L.length + post.length) := by rw [e1, hm]; simp
  have hb1 : b ≤ n := by omega
  have ha1 : a ≤ b := by omega
  have HR := hide hR
  have HM := hide hm
  have HA := hide ha
  have HB := hide hb
  have E1 := hide e1
  have HLEN := hide hlen
  clear hR hm ha hb e1 hlen
  go_enter Try.func60, Try.ntmps60
  go_wp2
  go_loopw [8] (fun ti wo => ∃ (i : Nat), ti = .int .i64 i ∧ a < i ∧ i ≤ b + 1 ∧ Hid (trapK.RowAt 33 wo (fun _ => False) g0 c (pre ++ (TS.isort TK (L.take (i - a)) ++ (L.drop (i - a) ++ post)))) ∧ Hid (Kept (fun i => i = g0) w wo)) (fun ti _ => b + 1 - (intOf ti).toNat)
  case atStart =>
    refine ⟨a + 1, by go_num, by omega, by omega, ?_, Kept.refl _ _⟩
    have h := HR.out
    rw [HM.out] at h
    cases L with
    | nil =>
      show trapK.RowAt _ _ _ _ _ _
      simpa [TS.isort, TS.mrg] using h
    | cons x L =>
      have e : a + 1 - a = 1 := by omega
      rw [e]
      exact h
  case round =>
    obtain ⟨i, rfl, hai, hib, HRO, HKO⟩ := hrel
    obtain ⟨wo, rfl⟩ : ∃ wo : World, wo = wr := ⟨_, rfl⟩
    by_cases hlt : i < b
    · obtain ⟨y, hy⟩ : ∃ y, L[i - a]? = some y := ⟨_, List.getElem?_eq_getElem (by have := HB.out; omega)⟩
      obtain ⟨S, hS⟩ : ∃ S, S = TS.isort TK (L.take (i - a)) := ⟨_, rfl⟩
      obtain ⟨R, hRR⟩ : ∃ R, R = L.drop (i - a + 1) ++ post := ⟨_, rfl⟩
      have hd : L.drop (i - a) = y :: L.drop (i - a + 1) := by
        obtain ⟨h1, h2⟩ := List.getElem?_eq_some_iff.1 hy
        rw [List.drop_eq_getElem_cons h1, h2]
      have htk : L.take (i - a + 1) = L.take (i - a) ++ [y] := by
        obtain ⟨h1, h2⟩ := List.getElem?_eq_some_iff.1 hy
        rw [List.take_succ_eq_append_getElem h1, h2]
      have hsl : S.length = i - a := by rw [hS, TS.isort_length, List.length_take]; have := HB.out; omega
      have hnext : TS.isort TK (L.take (i + 1 - a)) = TS.ins TK S y := by
        rw [show i + 1 - a = i - a + 1 from by omega, htk]
        unfold TS.isort at hS ⊢
        rw [TS.mrg_append, ← hS]; rfl
      have hrow : trapK.RowAt 33 wo (fun _ => False) g0 c (pre ++ (S ++ (y :: R))) := by
        have h := HRO.out
        rw [hd, ← hS] at h
        rw [hRR]; simpa using h
      have HROW := hide hrow
      have HNEXT := hide hnext
      have HS := hide hS
      have HSL := hide hsl
      have HRR := hide hRR
      have hsort : Hid (TS.Sorted TK S) := by rw [hS]; exact TS.isort_sorted _
      clear hd htk hrow hnext hS hsl hRR hy
      go_wp2
      go_loopw [9] (fun tj wi => ∃ (j : Nat) (s1 s2 : List TrapT), tj = .int .i64 j ∧ a ≤ j ∧ j ≤ i ∧ Hid (S = s1 ++ s2 ∧ a + s1.length = j ∧ (∀ x ∈ s2, y.at_ < x.at_)) ∧ Hid (trapK.RowAt 33 wi (fun _ => False) g0 c (pre ++ (s1 ++ (y :: (s2 ++ R))))) ∧ Hid (Kept (fun i => i = g0) w wi)) (fun tj _ => (intOf tj).toNat)
      case atStart => exact ⟨i, S, [], rfl, by omega, Nat.le_refl _, ⟨by simp, by have := HSL.out; omega, by simp⟩, HROW.out, HKO.out⟩
      case round =>
        obtain ⟨j, s1, s2, rfl, haj, hji, HH, HRW, HK⟩ := hrel
        by_cases hja : a < j
        · obtain ⟨jp, rfl⟩ : ∃ jp, j = jp + 1 := ⟨j - 1, by omega⟩
          obtain ⟨s0, x, hs0⟩ : ∃ s0 x, s1 = s0 ++ [x] := ⟨s1.dropLast, s1.getLast (by intro h; rw [h] at HH; have := HH.out.2.1; simp at this; omega), (List.dropLast_concat_getLast _).symm⟩
          subst hs0
          have hx : (pre ++ ((s0 ++ [x]) ++ (y :: (s2 ++ R))))[jp]? = some x := by
            have h2 := HH.out.2.1
            have h3 := HA.out
            simp only [List.length_append, List.length_singleton] at h2
            rw [List.getElem?_append_right (by omega), List.append_assoc, List.getElem?_append_right (by omega), show jp - pre.length - s0.length = 0 from by omega]
            rfl
          have hyy : (pre ++ ((s0 ++ [x]) ++ (y :: (s2 ++ R))))[jp + 1]? = some y := by
            have h2 := HH.out.2.1
            have h3 := HA.out
            simp only [List.length_append, List.length_singleton] at h2
            rw [List.getElem?_append_right (by omega), List.getElem?_append_right (by simp; omega), show jp + 1 - pre.length - (s0 ++ [x]).length = 0 from by simp; omega]
            rfl
          obtain ⟨x0, x1, f0, f1⟩ := row_facts HRW.out hx
          obtain ⟨y0, y1, f2, f3⟩ := row_facts HRW.out hyy
          have HXX := hide hx
          have HYY := hide hyy
          have X0 := cell_after x0
          have X1 := cell_after x1
          have Y0 := cell_after y0
          have Y1 := cell_after y1
          clear x0 x1 y0 y1 f0 f1 f2 f3 hx hyy
          have hwp : IntKind.i64.wrap (jp : Int) = (jp : Int) := by rw [IntKind.wrap_i64]; omega
          have jz : (jp : Int) + 1 < (n : Int) := by omega
          have jz1 : (jp : Int) < (n : Int) := by omega
          have hjaz' : (a : Int) < (jp : Int) + 1 := by omega
          have p0 : (0 : Int) ≤ (jp : Int) + 1 := by omega
          have e0 : ((jp : Int) + 1).toNat = jp + 1 := by omega
          go_wp2_with fail
          refine wp_region_after (by kernel_rfl) (by kernel_rfl) ?_
          repeat (go_big_quiet_step ((go_at_call 28; exact calls_after (cmp_any _ _ _))))
          refine wpQuiet_nil ?_
          intro _ hw'
          obtain ⟨q, rfl⟩ := hw'
          have HQ := hide q.h
          have hrq := HRW.out.below HQ.out
          have HRQ := hide hrq
          clear hrq X0 X1 Y0 Y1
          by_cases hlv : y.at_ < x.at_
          · have hc : cmpI y.at_ x.at_ < 0 := cmpI_lt.2 hlv
            obtain ⟨x0, x1, f0, f1⟩ := row_facts HRQ.out HXX.out
            obtain ⟨y0, y1, f2, f3⟩ := row_facts HRQ.out HYY.out
            generalize q.W = wq at HQ HRQ x0 x1 y0 y1 f0 f1 f2 f3 ⊢
            go_wp2_with fail
            go_region
            go_wp2
            go_roundw
            case rel =>
              refine ⟨jp, s0, x :: s2, rfl, by omega, by omega, ⟨by rw [HH.out.1]; simp, by have := HH.out.2.1; simp at this; omega, ?_⟩, ?_, ?_⟩
              · intro z hz
                rcases List.mem_cons.1 hz with rfl | hz
                · exact hlv
                · exact HH.out.2.2 z hz
              · have h := row_swap (i := jp + 1) (j := jp) (x := y) (y := x) HRQ.out (List.getElem?_eq_some_iff.1 HYY.out).1 (List.getElem?_eq_some_iff.1 HXX.out).1
                rw [swp2_near pre s0 (s2 ++ R) x y jp (by have h2 := HH.out.2.1; have h3 := HA.out; simp at h2; omega)] at h
                exact h
              · exact kept_swap (HK.out.trans (Kept.of_below (S := fun _ => False) HQ.out) (fun _ _ h => h) (fun _ _ h => h.elim))
            case measure => simp [intOf]
          · have hc : ¬ cmpI y.at_ x.at_ < 0 := fun h => hlv (cmpI_lt.1 h)
            generalize q.W = wq at HQ HRQ ⊢
            go_wp2_with fail
            go_roundw
            case rel =>
              refine ⟨i + 1, by go_num, by omega, by omega, ?_, HK.out.trans (Kept.of_below (S := fun _ => False) HQ.out) (fun _ _ h => h) (fun _ _ h => h.elim)⟩
              have h := HRQ.out
              have hso := hsort.out
              rw [HH.out.1] at hso
              have h1 : ∀ z ∈ s0 ++ [x], z.at_ ≤ y.at_ := by
                intro z hz
                have h2 := (List.pairwise_append.1 (List.pairwise_append.1 hso).1).2.2
                rcases List.mem_append.1 hz with hz | hz
                · have h3 : z.at_ ≤ x.at_ := h2 z hz x (by simp); omega
                · rw [List.mem_singleton.1 hz]; omega
              have e : TS.ins TK S y = (s0 ++ [x]) ++ y :: s2 := by rw [HH.out.1]; exact TS.ins_at h1 HH.out.2.2
              show trapK.RowAt _ _ _ _ _ _
              rw [HNEXT.out, e, show i + 1 - a = i - a + 1 from by omega, ← HRR.out]
              simpa using h
            case measure => simp [intOf]; omega
        · have hjaz : decide ((j : Int) > (a : Int)) = false := decide_eq_false (by omega)
          have hjaz' : ¬ (a : Int) < (j : Int) := by omega
          go_wp2_with fail
          go_quiet (fail)
          go_wp2_with fail
          go_roundw
          case rel =>
            refine ⟨i + 1, by go_num, by omega, by omega, ?_, HK.out.drewN _⟩
            have h : trapK.RowAt 33 (wr.drewN nq) (fun _ => False) g0 c _ := HRW.out
            have e0 : s1 = [] := List.eq_nil_of_length_eq_zero (by have := HH.out.2.1; omega)
            subst e0
            have e : TS.ins TK S y = [] ++ y :: s2 := by rw [HH.out.1]; exact TS.ins_at (by simp) HH.out.2.2
            show trapK.RowAt _ _ _ _ _ _
            rw [HNEXT.out, e, show i + 1 - a = i - a + 1 from by omega, ← HRR.out]
            simpa using h
          case measure => simp [intOf]; omega
    · go_wp2
      go_end0
      have h := HRO.out
      have e1 : L.length ≤ i - a := by have := HB.out; omega
      rw [List.take_of_length_le e1, List.drop_eq_nil_of_le e1] at h
      exact ⟨rfl, h, HKO.out⟩
end Go.Proofs.Ytpndigonlgnbeaa
