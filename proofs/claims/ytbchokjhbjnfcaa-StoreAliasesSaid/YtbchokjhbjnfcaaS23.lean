/- The law's questions: SameLines. -/
import Derived.Test.YtbchokjhbjnfcaaS22
import Derived.Test.YtbchokjhbjnfcaaS12
import Derived.BigRegion
import Derived.RegionTactic
set_option linter.unusedVariables false
set_option linter.unusedSimpArgs false
namespace Go.Proofs.Ytbchokjhbjnfcaa
open Go.RowKit
set_option maxHeartbeats 3200000
set_option maxRecDepth 1000000

theorem line_cells {w : World} {ok : Nat → Prop} {A : Option Addr} {n i : Nat} {L : List LineT} {x : LineT} (h : lineK.Rd w ok A n L) (hx : L[i]? = some x) :
    ∃ b off A5 c5, A = some ⟨b, off, none⟩ ∧ b < w.heap.size ∧ boxK.Rd w ok A5 x.boxes.length x.boxes ∧ w.cell? ⟨b, off + i * 5, none⟩ = some (.string x.text) ∧ w.cell? ⟨b, off + i * 5 + 1, none⟩ = some (.bool x.made) ∧ w.cell? ⟨b, off + i * 5 + 2, none⟩ = some (.int .i64 x.up) ∧
      w.cell? ⟨b, off + i * 5 + 3, none⟩ = some (.int .i64 x.down) ∧ w.cell? ⟨b, off + i * 5 + 4, none⟩ = some (.slice A5 x.boxes.length c5) := by
  obtain ⟨hi, rfl⟩ := List.getElem?_eq_some_iff.1 hx
  obtain ⟨b, off, cs, e, hb, ⟨A5, c5, rfl, -, -, -, hr⟩, hc⟩ := h.at_ hi
  exact ⟨b, off, A5, c5, e, hb, hr, hc 0 _ rfl, hc 1 _ rfl, hc 2 _ rfl, hc 3 _ rfl, hc 4 _ rfl⟩
theorem box_cells {w : World} {ok : Nat → Prop} {A : Option Addr} {n i : Nat} {L : List BoxT} {x : BoxT} (h : boxK.Rd w ok A n L) (hx : L[i]? = some x) :
    ∃ b off A5 c5, A = some ⟨b, off, none⟩ ∧ Kind.int.Rd w ok A5 x.ns.length x.ns ∧ w.cell? ⟨b, off + i * 7, none⟩ = some (.int .i64 x.kind) ∧ w.cell? ⟨b, off + i * 7 + 1, none⟩ = some (.int .i64 x.width) ∧ w.cell? ⟨b, off + i * 7 + 2, none⟩ = some (.int .i64 x.font) ∧
      w.cell? ⟨b, off + i * 7 + 3, none⟩ = some (.int .i64 x.size) ∧ w.cell? ⟨b, off + i * 7 + 4, none⟩ = some (.string x.name) ∧ w.cell? ⟨b, off + i * 7 + 5, none⟩ = some (.string x.colour) ∧ w.cell? ⟨b, off + i * 7 + 6, none⟩ = some (.slice A5 x.ns.length c5) := by
  obtain ⟨hi, rfl⟩ := List.getElem?_eq_some_iff.1 hx
  obtain ⟨b, off, cs, e, hb, ⟨A5, c5, rfl, -, -, hr⟩, hc⟩ := h.at_ hi
  exact ⟨b, off, A5, c5, e, hr, hc 0 _ rfl, hc 1 _ rfl, hc 2 _ rfl, hc 3 _ rfl, hc 4 _ rfl, hc 5 _ rfl, hc 6 _ rfl⟩
theorem two_local (w : World) (o o' : Obj) : ((w.alloc o).alloc o').drew.heap[w.heap.size]? = some o ∧ ((w.alloc o).alloc o').drew.heap[w.heap.size + 1]? = some o' ∧ Below w.heap.size w ((w.alloc o).alloc o').drew := by
  refine ⟨blk_alloc (blk_new w o) o', ?_, (below_two o o').drew⟩
  have h := blk_new (w.alloc o) o'
  have e : (w.alloc o).heap.size = w.heap.size + 1 := by simp
  rw [e] at h
  exact h/-- One walk for both orders of two allocations: what follows (M) is proved once. -/
theorem key_first {T : Nat → Nat → World → Prop} {M : Nat → Nat → World → Prop} {G : Prop} (hw : (∀ g6 g7 w3, T g6 g7 w3 → M g6 g7 w3) → G) (hk : ∀ g6 g7 w3, T g6 g7 w3 → M g6 g7 w3) : G := hw hk
/-- Two new locals. -/
def TwoAt (w : World) (o o' : Obj) (g6 g7 : Nat) (w3 : World) : Prop := w3.heap[g6]? = some o ∧ w3.heap[g7]? = some o' ∧ Below w.heap.size w w3
theorem TwoAt.one (w : World) (o o' : Obj) : TwoAt w o o' w.heap.size (w.heap.size + 1) ((w.alloc o).alloc o').drew := two_local w o o'
theorem TwoAt.other (w : World) (o o' : Obj) : TwoAt w o o' (w.heap.size + 1) w.heap.size ((w.alloc o').alloc o).drew := by
  obtain ⟨h1, h2, h3⟩ := two_local w o' o
  exact ⟨h2, h1, h3⟩
theorem SameLines_any (A : Option Addr) (c : Nat) (B : Option Addr) (d n : Nat) (L : List LineT) (ok ok' : Nat → Prop) (w : World) (hn : n ≤ 9223372036854775806) (hA : lineK.Rd w ok A n L) (hB : lineK.Rd w ok' B n L) (hf : Fair L) :
    Calls Try.prog 21 #[.slice A n c, .slice B n d] w fun e w' => e = .returned (.bool true) ∧ Below w.heap.size w w' := by
  have HA := hide hA
  have HB := hide hB
  have HFA := hide hf
  have hie : ((n : Int) != (n : Int)) = false := by simp
  have hln : L.length = n := hA.1
  have HLN := hide hln
  clear hA hB hln hf
  go_enter Try.func21, Try.ntmps21
  go_wp2_with fail
  go_loopw [5, 6, 7, 8, 9, 10] (fun t5 _ _ _ _ _ wr => ∃ i : Nat, t5 = .int .i64 i ∧ i ≤ n ∧ Hid (Below w.heap.size w wr)) (fun t5 _ _ _ _ _ _ => n - (intOf t5).toNat)
  case atStart => exact ⟨0, rfl, Nat.zero_le _, hide (Below.refl _ _)⟩
  case round =>
    obtain ⟨i, rfl, hi, HK⟩ := hrel
    by_cases hlt : i < n
    · obtain ⟨x, hx⟩ : ∃ x, L[i]? = some x := ⟨_, List.getElem?_eq_getElem (by have := HLN.out; omega)⟩
      obtain ⟨b1, o1, A5, c5, rfl, l1, r1, p0, p1, p2, p3, p4⟩ := line_cells (HA.out.below HK.out) hx
      obtain ⟨b2, o2, A6, c6, rfl, l2, r2, s0, s1, s2, s3, s4⟩ := line_cells (HB.out.below HK.out) hx
      have HR1 := hide r1
      have HFX := hide (HFA.out x (List.mem_of_getElem? hx))
      have HR2 := hide r2
      clear hx r1 r2
      go_upto_region 6 with fail
      have jz1 : (i : Int) < (n : Int) := by omega
      apply key_first (T := TwoAt wr (.cells #[.string x.text, .bool x.made, .int .i64 x.up, .int .i64 x.down, .slice A5 x.boxes.length c5] 61) (.cells #[.string x.text, .bool x.made, .int .i64 x.up, .int .i64 x.down, .slice A6 x.boxes.length c6] 61))
      case hw =>
        intro key
        have HKEY := hide key
        clear key
        go_region
        · have hw := TwoAt.one wr (.cells #[.string x.text, .bool x.made, .int .i64 x.up, .int .i64 x.down, .slice A5 x.boxes.length c5] 61) (.cells #[.string x.text, .bool x.made, .int .i64 x.up, .int .i64 x.down, .slice A6 x.boxes.length c6] 61)
          generalize ((wr.alloc (.cells #[.string x.text, .bool x.made, .int .i64 x.up, .int .i64 x.down, .slice A5 x.boxes.length c5] 61)).alloc (.cells #[.string x.text, .bool x.made, .int .i64 x.up, .int .i64 x.down, .slice A6 x.boxes.length c6] 61)).drew = w3 at hw ⊢
          generalize hG7 : wr.heap.size + 1 = G7 at hw ⊢
          generalize hG6 : wr.heap.size = G6 at hw ⊢
          exact HKEY.out G6 G7 w3 (by subst hG6; exact hw)
        · exact HKEY.out _ _ _ (TwoAt.other wr _ _)
      case hk =>
        intro G6 G7 w3 hw
        obtain ⟨hb6, hb7, hbel⟩ := hw
        have HB6 := hide hb6
        have HB7 := hide hb7
        have HB3 := hide (below_self HK.out hbel)
        have HRA := hide (HR1.out.below hbel)
        have HRB := hide (HR2.out.below hbel)
        have q0 : w3.cell? ⟨G6, 0, none⟩ = some (.string x.text) := by rw [blk_cell hb6]; rfl
        have q1 : w3.cell? ⟨G6, 1, none⟩ = some (.bool x.made) := by rw [blk_cell hb6]; rfl
        have q2 : w3.cell? ⟨G6, 2, none⟩ = some (.int .i64 x.up) := by rw [blk_cell hb6]; rfl
        have q3 : w3.cell? ⟨G6, 3, none⟩ = some (.int .i64 x.down) := by rw [blk_cell hb6]; rfl
        have q4 : w3.cell? ⟨G6, 4, none⟩ = some (.slice A5 x.boxes.length c5) := by rw [blk_cell hb6]; rfl
        have r0 : w3.cell? ⟨G7, 0, none⟩ = some (.string x.text) := by rw [blk_cell hb7]; rfl
        have r1 : w3.cell? ⟨G7, 1, none⟩ = some (.bool x.made) := by rw [blk_cell hb7]; rfl
        have r2 : w3.cell? ⟨G7, 2, none⟩ = some (.int .i64 x.up) := by rw [blk_cell hb7]; rfl
        have r3 : w3.cell? ⟨G7, 3, none⟩ = some (.int .i64 x.down) := by rw [blk_cell hb7]; rfl
        have r4 : w3.cell? ⟨G7, 4, none⟩ = some (.slice A6 x.boxes.length c6) := by rw [blk_cell hb7]; rfl
        clear hb6 hb7 hbel p0 p1 p2 p3 p4 s0 s1 s2 s3 s4
        have Q4 := hide q4
        have R4 := hide r4
        have hnn : ((x.boxes.length : Int) != (x.boxes.length : Int)) = false := by simp
        go_wp2_with fail
        go_loopw [8, 9, 10] (fun t8 _ _ wx => ∃ k : Nat, t8 = .int .i64 k ∧ k ≤ x.boxes.length ∧ Hid (Below w3.heap.size w3 wx)) (fun t8 _ _ _ => x.boxes.length - (intOf t8).toNat)
        case atStart => exact ⟨0, rfl, Nat.zero_le _, hide (Below.refl _ _)⟩
        case round =>
          obtain ⟨k, rfl, hk, HX⟩ := hrel
          have q4 := cell_stays HX.out Q4.out
          have r4 := cell_stays HX.out R4.out
          by_cases hkl : k < x.boxes.length
          · obtain ⟨y, hy⟩ : ∃ y, x.boxes[k]? = some y := ⟨_, List.getElem?_eq_getElem hkl⟩
            have hbl : x.boxes.length ≤ 1000000 := (HFX.out).1
            have hns : y.ns.length ≤ 9223372036854775806 := Nat.le_trans ((HFX.out).2 y (List.mem_of_getElem? hy)) (by omega)
            obtain ⟨b3, o3, A7, c7, e7, rn7, d0, d1, d2, d3, d4, d5, d6⟩ := box_cells (HRA.out.below HX.out) hy
            obtain ⟨b4, o4, A8, c8, e8, rn8, e0, e1, e2, e3, e4, e5, e6⟩ := box_cells (HRB.out.below HX.out) hy
            subst e7
            subst e8
            have RN7 := hide rn7
            have RN8 := hide rn8
            clear hy rn7 rn8
            have l6 := cell_lt q4
            have l7 := cell_lt r4
            have l3 := cell_lt d0
            have l4 := cell_lt e0
            go_upto_region 12 with fail
            have jz2 : (k : Int) < (x.boxes.length : Int) := by omega
            apply key_first (T := TwoAt wr (.cells #[.int .i64 y.kind, .int .i64 y.width, .int .i64 y.font, .int .i64 y.size, .string y.name, .string y.colour, .slice A7 y.ns.length c7] 76) (.cells #[.int .i64 y.kind, .int .i64 y.width, .int .i64 y.font, .int .i64 y.size, .string y.name, .string y.colour, .slice A8 y.ns.length c8] 76))
            case hw =>
              intro key
              have HKEY := hide key
              clear key
              go_region
              · have hw := TwoAt.one wr (.cells #[.int .i64 y.kind, .int .i64 y.width, .int .i64 y.font, .int .i64 y.size, .string y.name, .string y.colour, .slice A7 y.ns.length c7] 76) (.cells #[.int .i64 y.kind, .int .i64 y.width, .int .i64 y.font, .int .i64 y.size, .string y.name, .string y.colour, .slice A8 y.ns.length c8] 76)
                generalize ((wr.alloc (.cells #[.int .i64 y.kind, .int .i64 y.width, .int .i64 y.font, .int .i64 y.size, .string y.name, .string y.colour, .slice A7 y.ns.length c7] 76)).alloc (.cells #[.int .i64 y.kind, .int .i64 y.width, .int .i64 y.font, .int .i64 y.size, .string y.name, .string y.colour, .slice A8 y.ns.length c8] 76)).drew = w4 at hw ⊢
                generalize hG10 : wr.heap.size + 1 = G10 at hw ⊢
                generalize hG9 : wr.heap.size = G9 at hw ⊢
                exact HKEY.out G9 G10 w4 (by subst hG9; exact hw)
              · exact HKEY.out _ _ _ (TwoAt.other wr _ _)
            case hk =>
              intro G9 G10 w4 hw
              obtain ⟨hb9, hb10, hbel⟩ := hw
              clear l3 l4 l6 l7
              have HB4 := hide hbel
              have HN7 := hide (RN7.out.below hbel)
              have HN8 := hide (RN8.out.below hbel)
              have g0 : w4.cell? ⟨G9, 0, none⟩ = some (.int .i64 y.kind) := by rw [blk_cell hb9]; rfl
              have g1 : w4.cell? ⟨G9, 1, none⟩ = some (.int .i64 y.width) := by rw [blk_cell hb9]; rfl
              have g2 : w4.cell? ⟨G9, 2, none⟩ = some (.int .i64 y.font) := by rw [blk_cell hb9]; rfl
              have g3 : w4.cell? ⟨G9, 3, none⟩ = some (.int .i64 y.size) := by rw [blk_cell hb9]; rfl
              have g4 : w4.cell? ⟨G9, 4, none⟩ = some (.string y.name) := by rw [blk_cell hb9]; rfl
              have g5 : w4.cell? ⟨G9, 5, none⟩ = some (.string y.colour) := by rw [blk_cell hb9]; rfl
              have g6 : w4.cell? ⟨G9, 6, none⟩ = some (.slice A7 y.ns.length c7) := by rw [blk_cell hb9]; rfl
              have h0 : w4.cell? ⟨G10, 0, none⟩ = some (.int .i64 y.kind) := by rw [blk_cell hb10]; rfl
              have h1 : w4.cell? ⟨G10, 1, none⟩ = some (.int .i64 y.width) := by rw [blk_cell hb10]; rfl
              have h2 : w4.cell? ⟨G10, 2, none⟩ = some (.int .i64 y.font) := by rw [blk_cell hb10]; rfl
              have h3 : w4.cell? ⟨G10, 3, none⟩ = some (.int .i64 y.size) := by rw [blk_cell hb10]; rfl
              have h4 : w4.cell? ⟨G10, 4, none⟩ = some (.string y.name) := by rw [blk_cell hb10]; rfl
              have h5 : w4.cell? ⟨G10, 5, none⟩ = some (.string y.colour) := by rw [blk_cell hb10]; rfl
              have h6 : w4.cell? ⟨G10, 6, none⟩ = some (.slice A8 y.ns.length c8) := by rw [blk_cell hb10]; rfl
              clear hb9 hb10 hbel q4 r4 d0 d1 d2 d3 d4 d5 d6 e0 e1 e2 e3 e4 e5 e6
              go_wp2_with (go_at_call 44; refine (numbers_any A7 c7 A8 c8 y.ns.length y.ns _ _ _ hns HN7.out HN8.out).mono ?_; rintro e w5 ⟨rfl, q⟩; have Q5 := hide (below_self HB4.out q); clear q)
              go_roundw
              case rel => exact ⟨k + 1, by go_num, by omega, hide (below_self HX.out Q5.out)⟩
              case measure => simp [intOf]; omega
          · have hkn : k = x.boxes.length := by omega
            subst hkn
            go_wp2_with fail
            go_roundw
            case rel => exact ⟨i + 1, by go_num, by omega, hide (below_self HB3.out HX.out)⟩
            case measure => simp [intOf]; omega
    · go_wp2_with fail
      go_ret
      exact ⟨rfl, HK.out⟩
end Go.Proofs.Ytbchokjhbjnfcaa
