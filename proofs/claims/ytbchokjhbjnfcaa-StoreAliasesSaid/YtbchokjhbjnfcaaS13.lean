/- Deeds of chapter 03 in memory; big: it answers. -/
import Derived.Test.YtbchokjhbjnfcaaS12
set_option linter.unusedVariables false
set_option linter.unusedSimpArgs false
namespace Go.Proofs.Ytbchokjhbjnfcaa
open Go.RowKit
set_option maxHeartbeats 3200000
set_option maxRecDepth 1000000

/-- A deed. -/
structure DeedS where
  k : Int
  nm : ByteArray
  ot : ByteArray
  tx : ByteArray
  lines : List LineT
  a : Int
  b : Int
def DeedS.cells (x : DeedS) (A : Option Addr) (c : Nat) : List Value := [.int .i64 x.k, .string x.nm, .string x.ot, .string x.tx, .slice A x.lines.length c, .int .i64 x.a, .int .i64 x.b]
def deedK : Kind DeedS where
  sz := 7
  K := fun w ok x cs => ∃ A c, cs = x.cells A c ∧ x.nm.size ≤ 9223372036854775807 ∧ x.ot.size ≤ 9223372036854775807 ∧ x.tx.size ≤ 9223372036854775807 ∧ x.lines.length ≤ c ∧ c ≤ 9223372036854775807 ∧ lineK.Rd w ok A x.lines.length x.lines
  len := by
    rintro w ok x cs ⟨A, c, rfl, _⟩
    rfl
  one := by
    rintro w ok x cs ⟨A, c, rfl, _⟩ u hu
    simp only [DeedS.cells, List.mem_cons, List.not_mem_nil, or_false] at hu
    rcases hu with rfl | rfl | rfl | rfl | rfl | rfl | rfl <;> rfl
  weaken := by
    rintro w ok ok' x cs hok ⟨A, c, rfl, h1, h2, h3, hl, hc, hr⟩
    exact ⟨A, c, rfl, h1, h2, h3, hl, hc, hr.weaken hok⟩
  bound := by
    rintro w ok x cs ⟨A, c, rfl, h1, h2, h3, hl, hc, hr⟩
    exact ⟨A, c, rfl, h1, h2, h3, hl, hc, hr.bound⟩
  move := by
    rintro w w' ok x cs hm ⟨A, c, rfl, h1, h2, h3, hl, hc, hr⟩
    exact ⟨A, c, rfl, h1, h2, h3, hl, hc, hr.move hm⟩

theorem cell_below0 {w w' : World} {b o : Nat} {v : Value} (hb : Below w.heap.size w w') (h : w.cell? ⟨b, o, none⟩ = some v) : w'.cell? ⟨b, o, none⟩ = some v := (cell_same (hb.block b (cell_lt h)) o).trans h
/-- It returns a Bool. -/
def BoolEnd (e : Ending) : Prop := ∃ r : Bool, e = .returned (.bool r)
theorem big_any (A : Option Addr) (n c : Nat) (l : List DeedS) (ok : Nat → Prop) (w : World) (hr : deedK.Rd w ok A n l) (hn : n ≤ 9223372036854775807) :
    Calls Try.prog 22 #[.slice A n c] w fun e w' => BoolEnd e ∧ Below w.heap.size w w' := by
  have HR := hide hr
  have hln : l.length = n := hr.1
  have HLN := hide hln
  clear hr hln
  go_enter Try.func22, Try.ntmps22
  go_wp2_with fail
  go_loopw [3, 4, 5] (fun t3 t4 _ wr => ∃ (m : Int) (i : Nat), t3 = .int .i64 m ∧ t4 = .int .i64 i ∧ i ≤ n ∧ Hid (Below w.heap.size w wr)) (fun _ t4 _ _ => n - (intOf t4).toNat)
  case atStart => exact ⟨0, 0, rfl, rfl, Nat.zero_le _, hide (Below.refl _ _)⟩
  case round =>
    obtain ⟨m, i, rfl, rfl, hi, HB⟩ := hrel
    by_cases hlt : i < n ∧ m < 6000
    · obtain ⟨hlt, hm⟩ := hlt
      obtain ⟨x, hx⟩ : ∃ x, l[i]? = some x := ⟨_, List.getElem?_eq_getElem (by have := HLN.out; omega)⟩
      obtain ⟨hil, rfl⟩ := List.getElem?_eq_some_iff.1 hx
      obtain ⟨b, off, cs, rfl, hbl, ⟨A2, c2, rfl, h1, h2, h3, h4, h5, hr2⟩, hcell⟩ := (HR.out.below HB.out).at_ hil
      generalize l[i] = x at *
      have p3 : wr.cell? ⟨b, off + i * 7 + 3, none⟩ = some (.string x.tx) := hcell 3 _ rfl
      have p4 : wr.cell? ⟨b, off + i * 7 + 4, none⟩ = some (.slice A2 x.lines.length c2) := hcell 4 _ rfl
      have HP4 := hide p4
      have HL2 := hide hr2
      have C3 := cell_after p3
      have C4 := cell_after p4
      clear hx hcell p3 p4 hr2
      go_upto_region 5 with fail
      have jz1 : (i : Int) < (n : Int) := by omega
      refine wp_region_after (by kernel_rfl) (by kernel_rfl) ?_
      repeat (go_big_quiet_step (fail))
      refine wpQuiet_nil ?_
      intro _ hw'
      obtain ⟨q, rfl⟩ := hw'
      have HQ := hide q.h
      clear C3 C4
      generalize q.W = wq at HQ ⊢
      generalize (wrap64 (m + wrap64 ((x.tx.size : Int) + (x.lines.length : Int)))) = m2
      have HB2 := hide (below_self HB.out HQ.out)
      have HL3 := hide (HL2.out.below HQ.out)
      have HP5 := hide (cell_below0 HQ.out HP4.out)
      go_wp2_with fail
      go_loopw [3, 5] (fun t3 t5 wx => ∃ (m3 : Int) (j : Nat), t3 = .int .i64 m3 ∧ t5 = .int .i64 j ∧ j ≤ x.lines.length ∧ Hid (Below wq.heap.size wq wx)) (fun _ t5 _ => x.lines.length - (intOf t5).toNat)
      case atStart => exact ⟨m2, 0, rfl, rfl, Nat.zero_le _, hide (Below.refl _ _)⟩
      case round =>
        obtain ⟨m3, j, rfl, rfl, hj, HX⟩ := hrel
        have p4 := cell_below0 HX.out HP5.out
        by_cases hjl : j < x.lines.length ∧ m3 < 6000
        · obtain ⟨hjl, hm3⟩ := hjl
          obtain ⟨b2, o2, cs2, e2, hbl2, ⟨A3, c3, rfl, h6, h7, h8, -⟩, hcell2⟩ := (HL3.out.below HX.out).at_ hjl
          subst e2
          generalize x.lines[j] = y at hcell2 h6 h7
          have r0 : wr.cell? ⟨b2, o2 + j * 5, none⟩ = some (.string y.text) := hcell2 0 _ rfl
          have r4 : wr.cell? ⟨b2, o2 + j * 5 + 4, none⟩ = some (.slice A3 y.boxes.length c3) := hcell2 4 _ rfl
          clear hcell2
          have R0 := hide r0
          have R4 := hide r4
          clear r0 r4
          go_upto_region 9 with fail
          have C3 := cell_after p4
          have C4 := cell_after R0.out
          have C5 := cell_after R4.out
          clear p4
          have jz1 : (i : Int) < (n : Int) := by omega
          have jz2 : (j : Int) < (x.lines.length : Int) := by omega
          refine wp_region_after (by kernel_rfl) (by kernel_rfl) ?_
          repeat (go_big_quiet_step (fail))
          refine wpQuiet_nil ?_
          intro _ hw'
          obtain ⟨q2, rfl⟩ := hw'
          have HQ2 := hide q2.h
          clear C3 C4 C5
          generalize q2.W = wq2 at HQ2 ⊢
          generalize (wrap64 (m3 + wrap64 ((y.text.size : Int) + (y.boxes.length : Int)))) = m4
          go_wp2_with fail
          go_roundw
          case rel => exact ⟨m4, j + 1, rfl, by go_num, by omega, hide (below_self HX.out HQ2.out)⟩
          case measure => simp [intOf]; omega
        · by_cases hjl2 : j < x.lines.length
          · have hm3 : ¬ m3 < 6000 := fun h => hjl ⟨hjl2, h⟩
            clear hjl
            go_wp2_with fail
            go_roundw
            case rel => exact ⟨m3, i + 1, rfl, by go_num, by omega, hide (below_self HB2.out HX.out)⟩
            case measure => simp [intOf]; omega
          · clear hjl
            go_wp2_with fail
            go_roundw
            case rel => exact ⟨m3, i + 1, rfl, by go_num, by omega, hide (below_self HB2.out HX.out)⟩
            case measure => simp [intOf]; omega
    · by_cases hlt2 : i < n
      · have hm : ¬ m < 6000 := fun h => hlt ⟨hlt2, h⟩
        clear hlt
        go_wp2_with fail
        go_ret
        exact ⟨⟨_, rfl⟩, HB.out⟩
      · clear hlt
        by_cases hm : 6000 ≤ m
        · go_wp2_with fail
          go_ret
          exact ⟨⟨_, rfl⟩, HB.out⟩
        · go_wp2_with fail
          go_ret
          exact ⟨⟨_, rfl⟩, HB.out⟩
end Go.Proofs.Ytbchokjhbjnfcaa
