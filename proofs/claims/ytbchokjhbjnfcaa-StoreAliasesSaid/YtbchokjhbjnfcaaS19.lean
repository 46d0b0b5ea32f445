/- Lines that are ones: store.ok, AreLines. -/
import Derived.Test.YtbchokjhbjnfcaaS18
set_option linter.unusedVariables false
set_option linter.unusedSimpArgs false
namespace Go.Proofs.Ytbchokjhbjnfcaa
open Go.RowKit
set_option maxHeartbeats 1600000
set_option maxRecDepth 1000000

theorem take_all (L : List LineT) (k : Nat) (h : k < L.length) : (L.take (k + 1)).all lineB = ((L.take k).all lineB && lineB L[k]) := by
  rw [List.take_succ_eq_append_getElem h, List.all_append]
  simp
theorem okLine_any (x : LineT) (A : Option Addr) (c : Nat) (w : World) (ht : x.text.size ≤ 9223372036854775807) :
    Calls Try.prog 39 #[.agg #[.string x.text, .bool x.made, .int .i64 x.up, .int .i64 x.down, .slice A x.boxes.length c]] w fun e w' => e = .returned (.bool (lineB x)) ∧ Below w.heap.size w w' := by
  obtain ⟨t, m, u, d, bs⟩ := x
  obtain ⟨nb, hnb⟩ : ∃ nb, nb = bs.length := ⟨_, rfl⟩
  have ht' : t.size ≤ 9223372036854775807 := ht
  have HNB := hide hnb
  show Calls Try.prog 39 #[.agg #[.string t, .bool m, .int .i64 u, .int .i64 d, .slice A bs.length c]] w _
  rw [← hnb]
  clear ht hnb
  cases m with
  | false =>
    cases hf : fitsB t with
    | false =>
      have HF := hide hf
      go_enter Try.func39, Try.ntmps39
      go_wp2_with (go_at_call 30; refine (fits_any _ _ ht').mono ?_; rw [HF.out]; rintro e w' ⟨rfl, rfl⟩)
      go_ret
      exact ⟨ret_bool (by unfold lineB; simp [HF.out]), below_a _⟩
    | true =>
      have HF := hide hf
      clear hf
      by_cases h1 : u = 0
      · subst h1
        by_cases h2 : d = 0
        · subst h2
          go_enter Try.func39, Try.ntmps39
          go_wp2_with (go_at_call 30; refine (fits_any _ _ ht').mono ?_; rw [HF.out]; rintro e w' ⟨rfl, rfl⟩)
          go_ret
          exact ⟨ret_bool (by unfold lineB; rw [← HNB.out]; simp [HF.out]; rw [Bool.eq_iff_iff]; simp; try omega), below_a _⟩
        · have h2b : (d == 0) = false := beq_eq_false_iff_ne.2 h2
          clear h2
          go_enter Try.func39, Try.ntmps39
          go_wp2_with (go_at_call 30; refine (fits_any _ _ ht').mono ?_; rw [HF.out]; rintro e w' ⟨rfl, rfl⟩)
          go_ret
          exact ⟨ret_bool (by unfold lineB; simp [HF.out, h2b]), below_a _⟩
      · have h1b : (u == 0) = false := beq_eq_false_iff_ne.2 h1
        clear h1
        go_enter Try.func39, Try.ntmps39
        go_wp2_with (go_at_call 30; refine (fits_any _ _ ht').mono ?_; rw [HF.out]; rintro e w' ⟨rfl, rfl⟩)
        go_ret
        exact ⟨ret_bool (by unfold lineB; simp [HF.out, h1b]), below_a _⟩
  | true =>
    have hl : lineB ⟨t, true, u, d, bs⟩ = ((t.toList == []) && decide (-1000000 ≤ u) && decide (u ≤ 1000000) && decide (-1000000 ≤ d) && decide (d ≤ 1000000) && decide (nb ≤ 2000)) := by rw [HNB.out]; rfl
    rw [hl]
    clear hl
    cases ht0 : (t.toList == []) with
    | false =>
      go_enter Try.func39, Try.ntmps39
      go_wp2_with (go_at_call 52; refine (ok1_any _ _).mono ?_; rintro e w' ⟨rfl, rfl⟩)
      all_goals go_ret
      all_goals exact ⟨ret_bool (by simp), below_a _⟩
    | true =>
      by_cases hu : u < -1000000 ∨ 1000000 < u
      · have hub : (decide (u < -1000000) || decide (1000000 < u)) = true := by simpa using hu
        have HU := hide hu
        clear hu
        go_enter Try.func39, Try.ntmps39
        go_wp2_with (go_at_call 52; refine (ok1_any _ _).mono ?_; rw [hub]; rintro e w' ⟨rfl, rfl⟩)
        all_goals go_ret
        all_goals exact ⟨ret_bool (by have := HU.out; rw [eq_comm, Bool.eq_false_iff]; simp; omega), below_a _⟩
      · have hub : (decide (u < -1000000) || decide (1000000 < u)) = false := by simp; omega
        have HU := hide hu
        clear hu
        by_cases hd : d < -1000000 ∨ 1000000 < d
        · have hdb : (decide (d < -1000000) || decide (1000000 < d)) = true := by simpa using hd
          have HD := hide hd
          clear hd
          go_enter Try.func39, Try.ntmps39
          go_wp2_with (go_at_call 52; refine (ok1_any _ _).mono ?_; (first | rw [hub] | rw [hdb]); rintro e w' ⟨rfl, rfl⟩)
          all_goals go_ret
          all_goals exact ⟨ret_bool (by have := HD.out; rw [eq_comm, Bool.eq_false_iff]; simp; omega), below_a _⟩
        · have hdb : (decide (d < -1000000) || decide (1000000 < d)) = false := by simp; omega
          have HD := hide hd
          clear hd
          go_enter Try.func39, Try.ntmps39
          go_wp2_with (go_at_call 52; refine (ok1_any _ _).mono ?_; (first | rw [hub] | rw [hdb]); rintro e w' ⟨rfl, rfl⟩)
          all_goals go_ret
          all_goals exact ⟨ret_bool (by have := HD.out; have := HU.out; rw [Bool.eq_iff_iff]; simp; omega), below_a _⟩

theorem AreLines_any (A : Option Addr) (n c : Nat) (L : List LineT) (ok : Nat → Prop) (w : World) (hr : lineK.Rd w ok A n L) (hn : n ≤ 9223372036854775807) :
    Calls Try.prog 18 #[.slice A n c] w fun e w' => e = .returned (.bool (L.all lineB)) ∧ Below w.heap.size w w' := by
  have HR := hide hr
  have hln : L.length = n := hr.1
  have HLN := hide hln
  clear hr hln
  go_enter Try.func18, Try.ntmps18
  go_wp2_with fail
  go_loopw [3] (fun t3 wr => ∃ k : Nat, t3 = .int .i64 k ∧ k ≤ n ∧ Hid ((L.take k).all lineB = true) ∧ Hid (Below w.heap.size w wr)) (fun t3 _ => n - (intOf t3).toNat)
  case atStart => exact ⟨0, rfl, Nat.zero_le _, hide rfl, hide (Below.refl _ _)⟩
  case round =>
    obtain ⟨k, rfl, hk, HG, HB⟩ := hrel
    by_cases hlt : k < n
    · have hkl : k < L.length := by have := HLN.out; omega
      obtain ⟨b, off, cs, rfl, hbl, ⟨A5, c5, rfl, ht, -, -, -⟩, hcell⟩ := (HR.out.below HB.out).at_ hkl
      have hts := take_all L k hkl
      rw [HG.out] at hts
      obtain ⟨x, hx⟩ : ∃ x, x = L[k] := ⟨_, rfl⟩
      rw [← hx] at hcell ht hts
      have z0 : wr.cell? ⟨b, off + k * 5, none⟩ = some (.string x.text) := hcell 0 _ rfl
      have z1 : wr.cell? ⟨b, off + k * 5 + 1, none⟩ = some (.bool x.made) := hcell 1 _ rfl
      have z2 : wr.cell? ⟨b, off + k * 5 + 2, none⟩ = some (.int .i64 x.up) := hcell 2 _ rfl
      have z3 : wr.cell? ⟨b, off + k * 5 + 3, none⟩ = some (.int .i64 x.down) := hcell 3 _ rfl
      have z4 : wr.cell? ⟨b, off + k * 5 + 4, none⟩ = some (.slice A5 x.boxes.length c5) := hcell 4 _ rfl
      have HXX := hide hx
      have HTS := hide hts
      clear hcell hx hts
      cases hb : lineB x with
      | true =>
        have HLB := hide hb
        clear hb
        go_wp2_with (go_at_call 40; refine (IsLine_any x A5 c5 _ ht).mono ?_; rw [HLB.out]; rintro e w2 ⟨rfl, q⟩; have Q := hide q; clear q)
        go_roundw
        case rel => exact ⟨k + 1, by go_num, by omega, hide (by rw [HTS.out, HLB.out]; rfl), hide (below_self HB.out Q.out)⟩
        case measure => simp [intOf]; omega
      | false =>
        have HLB := hide hb
        clear hb
        go_wp2_with (go_at_call 40; refine (IsLine_any x A5 c5 _ ht).mono ?_; rw [HLB.out]; rintro e w2 ⟨rfl, q⟩; have Q := hide q; clear q)
        go_ret
        exact ⟨ret_bool (by rw [eq_comm, Bool.eq_false_iff]; intro h; have := List.all_eq_true.1 h x (by rw [HXX.out]; exact List.getElem_mem _); rw [HLB.out] at this; cases this), below_self HB.out Q.out⟩
    · have hk2 : k = n := by omega
      have hg := HG.out
      rw [List.take_of_length_le (by have := HLN.out; omega)] at hg
      have HA := hide hg
      clear hg
      go_wp2_with fail
      go_ret
      exact ⟨ret_bool HA.out.symm, HB.out⟩
end Go.Proofs.Ytbchokjhbjnfcaa
