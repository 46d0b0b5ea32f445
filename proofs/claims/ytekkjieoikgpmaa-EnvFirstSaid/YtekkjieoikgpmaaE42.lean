/- The reference's Same of stops, of boxes, of rows of boxes. -/
import Derived.Test.YtekkjieoikgpmaaE22
import Derived.Test.YtekkjieoikgpmaaE40
set_option linter.unusedVariables false
set_option linter.unusedSimpArgs false
namespace Go.Proofs.Ytekkjieoikgpmaa
open Go.RowKit
set_option maxHeartbeats 3200000
set_option maxRecDepth 1000000

theorem eqIn_rstop (d : Nat) (x y : StopT) (w : World) : (Op.equalIn (d + 2) 113 (.agg #[.int .i64 x.at_, .int .u8 (x.kind.toNat : Int)]) (.agg #[.int .i64 y.at_, .int .u8 (y.kind.toNat : Int)])).run Try.prog w = .ok (eqStop x y) w := by
  have hi := fun (a b : Int) => run_equalIn_int (P := Try.prog) w d 3 .i64 .i64 a b Try.underlying3
  have h8 := fun (a b : Int) => run_equalIn_int (P := Try.prog) w d 5 .u8 .u8 a b Try.underlying5
  have hp : Try.prog.stoodInHeld 113 = false := by kernel_rfl
  have ki : Try.prog.plainKey 3 = true := by kernel_rfl
  have k8 : Try.prog.plainKey 5 = true := by kernel_rfl
  rw [run_equalIn_struct w (d + 1) _ _ _ (by kernel_rfl) hp]
  have := fields_run (P := Try.prog) (w := w) (d + 1) #[.int .i64 x.at_, .int .u8 (x.kind.toNat : Int)] #[.int .i64 y.at_, .int .u8 (y.kind.toNat : Int)] [((Try.prog.fieldsOf 113).toList.getD 0 default, .int .i64 x.at_, .int .i64 y.at_, x.at_ == y.at_), ((Try.prog.fieldsOf 113).toList.getD 1 default, .int .u8 (x.kind.toNat : Int), .int .u8 (y.kind.toNat : Int), (x.kind.toNat : Int) == (y.kind.toNat : Int))] (by
      simp only [List.forall_mem_cons]
      exact ⟨⟨by decide, run_part_plain w ki rfl, run_part_plain w ki rfl, hi _ _⟩, ⟨by decide, run_part_plain w k8 rfl, run_part_plain w k8 rfl, h8 _ _⟩, fun _ h => by cases h⟩)
  rw [(by kernel_rfl : (Try.prog.fieldsOf 113).toList = [(Try.prog.fieldsOf 113).toList.getD 0 default, (Try.prog.fieldsOf 113).toList.getD 1 default])]
  refine this.trans ?_
  show Result.ok (_ && (_ && true)) w = _
  rw [Bool.and_true]
  rfl
theorem neq_rstop (x y : StopT) (w : World) : (binOp .neq 113 (.agg #[.int .i64 x.at_, .int .u8 (x.kind.toNat : Int)]) (.agg #[.int .i64 y.at_, .int .u8 (y.kind.toNat : Int)])).run Try.prog w = .ok (.bool !(eqStop x y)) w := by
  have hq := eqIn_rstop 9998 x y w
  simp only [binOp]
  simp [Op.equal, Op.maxDepth, hq]
theorem refSame12_any (A : Option Addr) (c : Nat) (l : List StopT) (ev : Int) (B : Option Addr) (d : Nat) (r : List StopT) (ew : Int) (ok ok' : Nat → Prop) (w : World) (hl : stopK.Rd w ok A l.length l) (hr : stopK.Rd w ok' B r.length r) (hn : l.length ≤ 9223372036854775807) :
    Calls Try.prog 30 #[.agg #[.slice A l.length c, .int .i64 ev], .agg #[.slice B r.length d, .int .i64 ew]] w fun e w' => e = .returned (.bool ((ev == ew) && all2 eqStop l r)) ∧ Below w.heap.size w w' := by
  have HL := hide hl
  have HR := hide hr
  obtain ⟨n, hln⟩ : ∃ n, n = l.length := ⟨_, rfl⟩
  obtain ⟨m, hrn⟩ : ∃ m, m = r.length := ⟨_, rfl⟩
  rw [← hln] at HL hn ⊢
  rw [← hrn] at HR ⊢
  have HLN := hide hln
  have HRN := hide hrn
  clear hl hr hln hrn
  by_cases hnm : n = m
  · subst hnm
    cases hev : (ev == ew) with
    | false =>
      go_enter Try.func30, Try.ntmps30
      go_wp2_with fail
      go_ret
      exact ⟨ret_bool (by simp), ((Below.refl _ _).alloc (Nat.le_refl _) _).alloc (by simp) _⟩
    | true =>
      go_enter Try.func30, Try.ntmps30
      go_upto_region 1 with fail
      refine wp_two ?_
      intro W0 hb1 hb2 hbel hsz
      have d0 : W0.cell? ⟨w.heap.size, 0, none⟩ = some (.slice A n c) := by rw [blk_cell hb1]; rfl
      have d1 : W0.cell? ⟨w.heap.size, 1, none⟩ = some (.int .i64 ev) := by rw [blk_cell hb1]; rfl
      have d2 : W0.cell? ⟨w.heap.size + 1, 0, none⟩ = some (.slice B n d) := by rw [blk_cell hb2]; rfl
      have d3 : W0.cell? ⟨w.heap.size + 1, 1, none⟩ = some (.int .i64 ew) := by rw [blk_cell hb2]; rfl
      have HB1 := hide hb1
      have HB2 := hide hb2
      have HBEL := hide hbel
      clear hb1 hb2 hbel hsz
      go_wp2_with fail
      go_loopw [5] (fun t5 wr => ∃ k : Nat, t5 = .int .i64 k ∧ k ≤ n ∧ Hid (all2 eqStop (l.take k) (r.take k) = true) ∧ Hid (Below W0.heap.size W0 wr)) (fun t5 _ => n - (intOf t5).toNat)
      case atStart => exact ⟨0, rfl, Nat.zero_le _, hide (by simp [all2]), hide (Below.refl _ _)⟩
      case round =>
        obtain ⟨k, rfl, hk, HG, HB⟩ := hrel
        have e0 := cell_stays HB.out d0
        have e2 := cell_stays HB.out d2
        clear d0 d1 d2 d3
        by_cases hlt : k < n
        · obtain ⟨x, hx⟩ : ∃ x, l[k]? = some x := ⟨_, List.getElem?_eq_getElem (by have := HLN.out; omega)⟩
          obtain ⟨y, hy⟩ : ∃ y, r[k]? = some y := ⟨_, List.getElem?_eq_getElem (by have := HRN.out; omega)⟩
          obtain ⟨b1, o1, rfl, -, z0, z2⟩ := rd_stop ((HL.out.below HBEL.out).below HB.out) hx
          obtain ⟨b2, o2, rfl, -, z1, z3⟩ := rd_stop ((HR.out.below HBEL.out).below HB.out) hy
          have hts := all2_take eqStop l r k x y hx hy
          rw [HG.out, Bool.true_and] at hts
          have hno := all2_no eqStop l r k x y hx hy
          have HTS := hide hts
          have HNO := hide hno
          have i1 : (0 : Int) ≤ (k : Int) := by omega
          have i2 : (k : Int) < (n : Int) := by omega
          clear hx hy hts hno
          cases hb : eqStop x y with
          | false =>
            have HF := hide hb
            have hne := fun W => neq_rstop x y W
            rw [hb] at hne
            clear hb
            go_upto_region 6 with fail
            go_region
            all_goals go_wp2_with fail
            all_goals go_ret
            all_goals exact ⟨ret_bool (by rw [HNO.out HF.out]; rfl), HBEL.out.trans (HB.out.drew.mono HBEL.out.size)⟩
          | true =>
            have HF := hide hb
            have hne := fun W => neq_rstop x y W
            rw [hb] at hne
            clear hb
            go_upto_region 6 with fail
            go_region
            all_goals go_wp2_with fail
            all_goals go_roundw
            all_goals first
              | exact ⟨k + 1, by go_num, by omega, hide (by rw [HTS.out, HF.out]), hide HB.out.drew⟩
              | (simp [intOf]; omega)
        · have hg := HG.out
          rw [List.take_of_length_le (by have := HLN.out; omega), List.take_of_length_le (by have := HRN.out; omega)] at hg
          have HA := hide hg
          clear hg
          go_wp2_with fail
          go_ret
          exact ⟨ret_bool (by rw [HA.out]; rfl), HBEL.out.trans (HB.out.mono HBEL.out.size)⟩
  · have hno := all2_len eqStop l r (by have := HLN.out; have := HRN.out; omega)
    have HNO := hide hno
    have hne2 : ((n : Int) == (m : Int)) = false := by simp; omega
    clear hno
    go_enter Try.func30, Try.ntmps30
    go_wp2_with fail
    go_ret
    exact ⟨ret_bool (by rw [HNO.out]; simp), ((Below.refl _ _).alloc (Nat.le_refl _) _).alloc (by simp) _⟩
end Go.Proofs.Ytekkjieoikgpmaa
