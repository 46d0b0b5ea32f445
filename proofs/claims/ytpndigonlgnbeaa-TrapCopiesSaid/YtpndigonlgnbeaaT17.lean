/- The law's planted. -/
import Derived.Test.YtpndigonlgnbeaaT16
set_option linter.unusedVariables false
set_option linter.unusedSimpArgs false
namespace Go.Proofs.Ytpndigonlgnbeaa
open Go.RowKit
set_option maxHeartbeats 1600000
set_option maxRecDepth 1000000

def deedK : Kind DeedT where
  sz := 3
  K := fun _ _ x cs => cs = x.cells ∧ x.s.size ≤ 9223372036854775807
  len := fun h => by rw [h.1]; rfl
  one := fun h u hu => by
    rw [h.1] at hu
    simp [DeedT.cells] at hu
    rcases hu with rfl | rfl | rfl <;> rfl
  weaken := fun _ h => h
  bound := fun h => h
  move := fun _ h => h

theorem planted_trap (A : Option Addr) (n c : Nat) (l : List DeedT) (ok : Nat → Prop) (w : World) (hr : deedK.Rd w ok A n l) (hn : n ≤ 9223372036854775807) :
    Calls Try.prog 8 #[.slice A n c] w fun e w' => ∃ g v ts, e = .returned (.pointer (some ⟨g, 0, none⟩)) ∧ Tab w.heap.size w' g v ts ∧ ts.length ≤ 100 ∧ Below w.heap.size w w' := by
  have HR := hide hr
  clear hr
  go_enter Try.func8, Try.ntmps8
  go_upto_region 2 with (go_at_call 12; refine (new_any _).mono ?_; rintro e w1 ⟨rfl, q⟩; have HT0 : Hid (Tab w.heap.size w1 w.heap.size (.slice none 0 0) []) := hide (by rw [q]; exact new_tab w); have HB0 : Hid (Below w.heap.size w w1) := hide (by rw [q]; exact (Below.refl _ _).alloc (Nat.le_refl _) _); clear q)
  go_wp2_with fail
  go_loopw [4] (fun t4 wr => ∃ (k : Nat) (v : Value) (ts : List TrapT), t4 = .int .i64 k ∧ k ≤ n ∧ k ≤ 200 ∧ Hid (Tab w.heap.size wr w.heap.size v ts) ∧ Hid (ts.length ≤ 100) ∧ Hid (Below w.heap.size w wr)) (fun t4 _ => n - (intOf t4).toNat)
  case atStart => exact ⟨0, _, _, rfl, Nat.zero_le _, Nat.zero_le _, HT0, hide (by simp), HB0⟩
  case round =>
    obtain ⟨k, v, ts, rfl, hk, hk2, HT, HL, HB⟩ := hrel
    by_cases hlt : k < n
    · by_cases hlt2 : k < 200
      · obtain ⟨b, off, cs, rfl, hblt, hK, hcell⟩ := (HR.out.below HB.out).at_ (i := k) (by have := HR.out.1; omega)
        obtain ⟨rfl, hsz⟩ := hK
        obtain ⟨x, hx⟩ : ∃ x, x = l[k]'(by have := HR.out.1; omega) := ⟨_, rfl⟩
        rw [← hx] at hcell hsz
        clear hx
        obtain ⟨dk, da, ds⟩ := x
        have c0 : wr.cell? ⟨b, off + k * 3, none⟩ = some (.int .i64 dk) := hcell 0 _ rfl
        have c1 : wr.cell? ⟨b, off + k * 3 + 1, none⟩ = some (.int .i64 da) := hcell 1 _ rfl
        have c2 : wr.cell? ⟨b, off + k * 3 + 2, none⟩ = some (.string ds) := hcell 2 _ rfl
        have hsz' : ds.size ≤ 9223372036854775807 := hsz
        clear hcell hsz
        obtain ⟨S, hS⟩ : ∃ S : Nat, S = ds.size + k := ⟨_, rfl⟩
        obtain ⟨m6, hm6⟩ : ∃ m6 : Nat, m6 = S % 6 := ⟨_, rfl⟩
        have hm1 : m6 ≤ 5 := by omega
        have g1 : IntKind.u64.wrap (wrap64 ((ds.size : Int) + (k : Int))) = (S : Int) := by rw [IntKind.wrap_u64]; unfold wrap64; omega
        have g2 : (S : Int).tmod 6 = (m6 : Int) := by rw [hm6]; rfl
        have hS2 : S ≤ 9223372036854776007 := by omega
        have G1 := hide g1
        have G2 := hide g2
        clear g1 g2 hS hm6
        go_upto_region 6 with fail
        go_upto_region 7 with fail
        generalize ((wrap64 ((IntKind.u64.wrap dk).tmod 5)).tmod 4) = i1
        generalize (wrap64 (wrap64 ((IntKind.u64.wrap da).tmod 1300) - 200)) = i2
        have g1 := G1.out
        have g2 := G2.out
        go_upto_region 8 with fail
        have hse : (({ data := #[97, 98, 99, 100, 101, 102] } : ByteArray).extract m6 (m6 + 1)).size ≤ 9223372036854775807 := by
          rw [ByteArray.size_extract]
          have : (({ data := #[97, 98, 99, 100, 101, 102] } : ByteArray)).size = 6 := rfl
          rw [this]
          omega
        generalize (({ data := #[97, 98, 99, 100, 101, 102] } : ByteArray).extract m6 (m6 + 1)) = s6 at hse ⊢
        have HSE := hide hse
        have hal : Below wr.heap.size wr (wr.alloc (.cells #[.int .i64 i1, .int .i64 i2, .string s6] 43)) := (Below.refl _ _).alloc (Nat.le_refl _) _
        have HT2 := hide (HT.out.below hal)
        have HB2 := hide (HB.out.trans (hal.mono HB.out.size))
        clear hse hal g1 g2 G1 G2
        go_wp2_with (go_at_call 14; refine (do_trap w.heap.size w.heap.size v ts ⟨i1, i2, s6⟩ _ HT2.out (Nat.le_trans HL.out (by omega)) HB2.out.size HSE.out).mono ?_; rintro e w2 ⟨rfl, v2, q1, q2, q3⟩; have HT3 := hide q1; have HB3 := hide (HB2.out.trans (q2.below (B := w.heap.size) HB2.out.size (fun i h => h.elim (fun h => by omega) (fun h => (HT2.out.own.lt i h).1)))); clear q1 q2 q3)
        go_roundw
        case rel => exact ⟨k + 1, v2, _, by go_num, by omega, by omega, HT3, hide (doP_len HL.out), HB3⟩
        case measure => simp [intOf]; omega
      · go_wp2_with fail
        go_ret
        exact ⟨_, v, ts, rfl, HT.out, HL.out, HB.out⟩
    · go_wp2_with fail
      go_ret
      exact ⟨_, v, ts, rfl, HT.out, HL.out, HB.out⟩
end Go.Proofs.Ytpndigonlgnbeaa
