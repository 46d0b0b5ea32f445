/- The law's questions: numbers. -/
import Derived.Test.YtbchokjhbjnfcaaS21
set_option linter.unusedVariables false
set_option linter.unusedSimpArgs false
namespace Go.Proofs.Ytbchokjhbjnfcaa
open Go.RowKit
set_option maxHeartbeats 1600000
set_option maxRecDepth 1000000

theorem rd_int {w : World} {ok : Nat → Prop} {A : Option Addr} {n i : Nat} {l : List Int} {x : Int} (h : Kind.int.Rd w ok A n l) (hx : l[i]? = some x) :
    ∃ b off, A = some ⟨b, off, none⟩ ∧ w.cell? ⟨b, off + i, none⟩ = some (.int .i64 x) := by
  obtain ⟨hi, rfl⟩ := List.getElem?_eq_some_iff.1 hx
  obtain ⟨b, off, cs, e, _, hK, hc⟩ := h.at_ hi
  subst hK
  have h0 := hc 0 _ rfl
  rw [show off + i * Kind.int.sz + 0 = off + i from by show off + i * 1 + 0 = off + i; omega] at h0
  exact ⟨b, off, e, h0⟩
theorem numbers_any (A : Option Addr) (c : Nat) (B : Option Addr) (d n : Nat) (L : List Int) (ok ok' : Nat → Prop) (w : World) (hn : n ≤ 9223372036854775806) (hA : Kind.int.Rd w ok A n L) (hB : Kind.int.Rd w ok' B n L) :
    Calls Try.prog 44 #[.slice A n c, .slice B n d] w fun e w' => e = .returned (.bool true) ∧ Below w.heap.size w w' := by
  have HA := hide hA
  have HB := hide hB
  have hie : ((n : Int) != (n : Int)) = false := by simp
  have hln : L.length = n := hA.1
  have HLN := hide hln
  clear hA hB hln
  go_enter Try.func44, Try.ntmps44
  go_wp2_with fail
  go_loopw [5] (fun t5 wr => ∃ i : Nat, t5 = .int .i64 i ∧ i ≤ n ∧ Hid (Below w.heap.size w wr)) (fun t5 _ => n - (intOf t5).toNat)
  case atStart => exact ⟨0, rfl, Nat.zero_le _, hide (Below.refl _ _)⟩
  case round =>
    obtain ⟨i, rfl, hi, HK⟩ := hrel
    by_cases hlt : i < n
    · obtain ⟨x, hx⟩ : ∃ x, L[i]? = some x := ⟨_, List.getElem?_eq_getElem (by have := HLN.out; omega)⟩
      obtain ⟨b1, o1, rfl, p0⟩ := rd_int (HA.out.below HK.out) hx
      obtain ⟨b2, o2, rfl, p2⟩ := rd_int (HB.out.below HK.out) hx
      have C0 := cell_after p0
      have C2 := cell_after p2
      clear p0 p2 hx
      go_upto_region 6 with fail
      have jz1 : (i : Int) < (n : Int) := by omega
      refine wp_region_after (by kernel_rfl) (by kernel_rfl) ?_
      repeat (go_big_quiet_step (fail))
      refine wpQuiet_nil ?_
      intro _ hw'
      obtain ⟨q, rfl⟩ := hw'
      have HQ := hide q.h
      clear C0 C2
      generalize q.W = wq at HQ ⊢
      go_wp2_with fail
      go_roundw
      case rel => exact ⟨i + 1, by go_num, by omega, hide (below_self HK.out HQ.out)⟩
      case measure => simp [intOf]; omega
    · go_wp2_with fail
      go_ret
      exact ⟨rfl, HK.out⟩
end Go.Proofs.Ytbchokjhbjnfcaa
