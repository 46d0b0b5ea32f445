/- Lines that are ones: slices.ContainsFunc with Macro's and Add's test. -/
import Derived.Test.YtbchokjhbjnfcaaS19
set_option linter.unusedVariables false
set_option linter.unusedSimpArgs false
namespace Go.Proofs.Ytbchokjhbjnfcaa
open Go.RowKit
set_option maxHeartbeats 1600000
set_option maxRecDepth 1000000

theorem bad_Macro (x : LineT) (A : Option Addr) (c : Nat) (w : World) (ht : x.text.size ≤ 9223372036854775807) :
    Calls Try.prog 38 #[.agg #[.string x.text, .bool x.made, .int .i64 x.up, .int .i64 x.down, .slice A x.boxes.length c]] w fun e w' => e = .returned (.bool !(lineB x)) ∧ Below w.heap.size w w' := by
  go_enter Try.func38, Try.ntmps38
  go_wp2_with (go_at_call 39; refine (okLine_any x A c _ ht).mono ?_; rintro e w2 ⟨rfl, q⟩; have Q := hide q; clear q)
  go_ret
  exact ⟨rfl, below_self (below_a _) Q.out⟩
theorem bad_Add (x : LineT) (A : Option Addr) (c : Nat) (w : World) (ht : x.text.size ≤ 9223372036854775807) :
    Calls Try.prog 41 #[.agg #[.string x.text, .bool x.made, .int .i64 x.up, .int .i64 x.down, .slice A x.boxes.length c]] w fun e w' => e = .returned (.bool !(lineB x)) ∧ Below w.heap.size w w' := by
  go_enter Try.func41, Try.ntmps41
  go_wp2_with (go_at_call 39; refine (okLine_any x A c _ ht).mono ?_; rintro e w2 ⟨rfl, q⟩; have Q := hide q; clear q)
  go_ret
  exact ⟨rfl, below_self (below_a _) Q.out⟩
theorem IndexFunc_bad (gf : Nat) (eg : ∀ args w, (callFunc gf args).run Try.prog w = .ok (.enter gf args) w)
    (hp : ∀ (x : LineT) (A : Option Addr) (c : Nat) (W : World), x.text.size ≤ 9223372036854775807 → Calls Try.prog gf #[.agg #[.string x.text, .bool x.made, .int .i64 x.up, .int .i64 x.down, .slice A x.boxes.length c]] W fun e W' => e = .returned (.bool !(lineB x)) ∧ Below W.heap.size W W')
    (A : Option Addr) (n c : Nat) (L : List LineT) (ok : Nat → Prop) (w : World) (hr : lineK.Rd w ok A n L) (hn : n ≤ 9223372036854775807) :
    Calls Try.prog 51 #[.slice A n c, .func (.func gf) #[] #[]] w fun e w' => ∃ r : Int, e = .returned (.int .i64 r) ∧ decide (0 ≤ r) = !(L.all lineB) ∧ Below w.heap.size w w' := by
  have HR := hide hr
  have hln : L.length = n := hr.1
  have HLN := hide hln
  have HP := hide hp
  clear hr hln hp
  go_enter Try.func51, Try.ntmps51
  go_wp2_with fail
  go_loopw [5, 8] (fun _ t8 wr => ∃ k : Nat, t8 = .int .i64 k ∧ k ≤ n ∧ Hid ((L.take k).all lineB = true) ∧ Hid (Below w.heap.size w wr)) (fun _ t8 _ => n - (intOf t8).toNat)
  case atStart => exact ⟨0, rfl, Nat.zero_le _, hide rfl, hide (Below.refl _ _)⟩
  case round =>
    obtain ⟨k, rfl, hk, HG, HB⟩ := hrel
    by_cases hlt : k < n
    · have hkl : k < L.length := by have := HLN.out; omega
      obtain ⟨b, off, cs, rfl, hbl, ⟨A5, c5, rfl, ht, -, -, -⟩, hcell⟩ := (HR.out.below HB.out).at_ hkl
      have hts := take_all L k hkl
      rw [HG.out] at hts
      obtain ⟨x, hx⟩ : ∃ x, x = L[k] := ⟨_, rfl⟩
      rw [← hx] at hcell ht hts
      have z0 : wr.cell? ⟨b, off + k * 5, none⟩ = some (.string x.text) := hcell 0 _ rfl
      have z1 : wr.cell? ⟨b, off + k * 5 + 1, none⟩ = some (.bool x.made) := hcell 1 _ rfl
      have z2 : wr.cell? ⟨b, off + k * 5 + 2, none⟩ = some (.int .i64 x.up) := hcell 2 _ rfl
      have z3 : wr.cell? ⟨b, off + k * 5 + 3, none⟩ = some (.int .i64 x.down) := hcell 3 _ rfl
      have z4 : wr.cell? ⟨b, off + k * 5 + 4, none⟩ = some (.slice A5 x.boxes.length c5) := hcell 4 _ rfl
      have HXX := hide hx
      have HTS := hide hts
      clear hcell hx hts
      cases hb : lineB x with
      | true =>
        have HLB := hide hb
        clear hb
        go_wp2_with (go_at_fn gf; refine (HP.out x A5 c5 _ ht).mono ?_; rw [HLB.out]; rintro e w2 ⟨rfl, q⟩; have Q := hide q; clear q)
        go_roundw
        case rel => exact ⟨k + 1, by go_num, by omega, hide (by rw [HTS.out, HLB.out]; rfl), hide (below_self HB.out Q.out)⟩
        case measure => simp [intOf]; omega
      | false =>
        have HLB := hide hb
        clear hb
        go_wp2_with (go_at_fn gf; refine (HP.out x A5 c5 _ ht).mono ?_; rw [HLB.out]; rintro e w2 ⟨rfl, q⟩; have Q := hide q; clear q)
        go_ret
        refine ⟨(k : Int), rfl, ?_, below_self HB.out Q.out⟩
        have : L.all lineB = false := by
          rw [Bool.eq_false_iff]
          intro h
          have := List.all_eq_true.1 h x (by rw [HXX.out]; exact List.getElem_mem _)
          rw [HLB.out] at this
          cases this
        rw [this]
        simp
    · have hk2 : k = n := by omega
      have hg := HG.out
      rw [List.take_of_length_le (by have := HLN.out; omega)] at hg
      have HA := hide hg
      clear hg
      go_wp2_with fail
      go_ret
      exact ⟨-1, rfl, by rw [HA.out]; rfl, HB.out⟩
end Go.Proofs.Ytbchokjhbjnfcaa
