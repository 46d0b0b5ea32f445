/- slices.Equal over numbers and over stops; env.sameBox; slices.EqualFunc over boxes. -/
import Derived.Test.YtekkjieoikgpmaaE20
set_option linter.unusedVariables false
set_option linter.unusedSimpArgs false
namespace Go.Proofs.Ytekkjieoikgpmaa
open Go.RowKit
set_option maxHeartbeats 3200000
set_option maxRecDepth 1000000

theorem all2_take {α : Type} (f : α → α → Bool) : ∀ (l m : List α) (k : Nat) (a b : α), l[k]? = some a → m[k]? = some b → all2 f (l.take (k + 1)) (m.take (k + 1)) = (all2 f (l.take k) (m.take k) && f a b)
  | x :: l, y :: m, 0, a, b, ha, hb => by
    have e1 : x = a := by simpa using ha
    have e2 : y = b := by simpa using hb
    subst e1; subst e2
    simp [all2]
  | x :: l, y :: m, k + 1, a, b, ha, hb => by
    have := all2_take f l m k a b (by simpa using ha) (by simpa using hb)
    simp only [List.take_succ_cons, all2, this, Bool.and_assoc]
  | [], _, _, _, _, ha, _ => by simp at ha
  | _ :: _, [], _, _, _, _, hb => by simp at hb
theorem all2_no {α : Type} (f : α → α → Bool) : ∀ (l m : List α) (k : Nat) (a b : α), l[k]? = some a → m[k]? = some b → f a b = false → all2 f l m = false
  | x :: l, y :: m, 0, a, b, ha, hb, hf => by
    have e1 : x = a := by simpa using ha
    have e2 : y = b := by simpa using hb
    subst e1; subst e2
    simp [all2, hf]
  | x :: l, y :: m, k + 1, a, b, ha, hb, hf => by
    have := all2_no f l m k a b (by simpa using ha) (by simpa using hb) hf
    simp [all2, this]
  | [], _, _, _, _, ha, _, _ => by simp at ha
  | _ :: _, [], _, _, _, _, hb, _ => by simp at hb
theorem all2_len {α : Type} (f : α → α → Bool) : ∀ (l m : List α), l.length ≠ m.length → all2 f l m = false
  | [], [], h => absurd rfl h
  | [], _ :: _, _ => rfl
  | _ :: _, [], _ => rfl
  | x :: l, y :: m, h => by
    have := all2_len f l m (fun e => h (by simp [e]))
    simp [all2, this]
theorem all2_self {α : Type} (f : α → α → Bool) (hf : ∀ a, f a a = true) : ∀ l : List α, all2 f l l = true
  | [] => rfl
  | x :: l => by simp [all2, hf, all2_self f hf l]
theorem Equal_int (A : Option Addr) (n c : Nat) (l : List Int) (B : Option Addr) (m d : Nat) (r : List Int) (ok : Nat → Prop) (w : World) (hl : Kind.int.Rd w ok A n l) (hr : Kind.int.Rd w ok B m r) (hn : n ≤ 9223372036854775807) :
    Calls Try.prog 77 #[.slice A n c, .slice B m d] w fun e w' => e = .returned (.bool (all2 (· == ·) l r)) ∧ Below w.heap.size w w' := by
  have HL := hide hl
  have HR := hide hr
  have hln : l.length = n := hl.1
  have hrn : r.length = m := hr.1
  have HLN := hide hln
  have HRN := hide hrn
  clear hl hr hln hrn
  by_cases hnm : n = m
  · subst hnm
    go_enter Try.func77, Try.ntmps77
    go_wp2_with fail
    go_loopw [5, 13] (fun _ t13 wr => ∃ k : Nat, t13 = .int .i64 k ∧ k ≤ n ∧ Hid (all2 (· == ·) (l.take k) (r.take k) = true) ∧ Hid (Below w.heap.size w wr)) (fun _ t13 _ => n - (intOf t13).toNat)
    case atStart => exact ⟨0, rfl, Nat.zero_le _, hide (by simp [all2]), hide (Below.refl _ _)⟩
    case round =>
      obtain ⟨k, rfl, hk, HG, HB⟩ := hrel
      by_cases hlt : k < n
      · obtain ⟨x, hx⟩ : ∃ x, l[k]? = some x := ⟨_, List.getElem?_eq_getElem (by have := HLN.out; omega)⟩
        obtain ⟨y, hy⟩ : ∃ y, r[k]? = some y := ⟨_, List.getElem?_eq_getElem (by have := HRN.out; omega)⟩
        obtain ⟨b1, o1, rfl, z0⟩ := rd_int (HL.out.below HB.out) hx
        obtain ⟨b2, o2, rfl, z1⟩ := rd_int (HR.out.below HB.out) hy
        have hts := all2_take (· == ·) l r k x y hx hy
        rw [HG.out, Bool.true_and] at hts
        have hno := all2_no (· == ·) l r k x y hx hy
        have HTS := hide hts
        have HNO := hide hno
        have i1 : (0 : Int) ≤ (k : Int) := by omega
        have i2 : (k : Int) < (n : Int) := by omega
        clear hx hy hts hno
        cases hb : (x == y) with
        | false =>
          have HF := hide hb
          go_upto_region 6 with fail
          go_region
          all_goals go_wp2_with fail
          all_goals go_ret
          all_goals exact ⟨ret_bool (HNO.out HF.out).symm, HB.out.drew⟩
        | true =>
          have HF := hide hb
          go_upto_region 6 with fail
          go_region
          all_goals go_wp2_with fail
          all_goals go_roundw
          all_goals first
            | exact ⟨k + 1, by go_num, by omega, hide (by rw [HTS.out, HF.out]), hide HB.out.drew⟩
            | (simp [intOf]; omega)
      · have hg := HG.out
        rw [List.take_of_length_le (by have := HLN.out; omega), List.take_of_length_le (by have := HRN.out; omega)] at hg
        have HA := hide hg
        clear hg
        go_wp2_with fail
        go_ret
        exact ⟨ret_bool HA.out.symm, HB.out⟩
  · have hno := all2_len (· == ·) l r (by have := HLN.out; have := HRN.out; omega)
    have HNO := hide hno
    have hne2 : ((n : Int) == (m : Int)) = false := by simp; omega
    clear hno
    go_enter Try.func77, Try.ntmps77
    go_wp2_with fail
    go_ret
    exact ⟨ret_bool HNO.out.symm, Below.refl _ _⟩
def eqStop (a b : StopT) : Bool := (a.at_ == b.at_) && ((a.kind.toNat : Int) == (b.kind.toNat : Int))
theorem eqIn_stop (d : Nat) (x y : StopT) (w : World) : (Op.equalIn (d + 2) 100 (.agg #[.int .i64 x.at_, .int .u8 (x.kind.toNat : Int)]) (.agg #[.int .i64 y.at_, .int .u8 (y.kind.toNat : Int)])).run Try.prog w = .ok (eqStop x y) w := by
  have hi := fun (a b : Int) => run_equalIn_int (P := Try.prog) w d 3 .i64 .i64 a b Try.underlying3
  have h8 := fun (a b : Int) => run_equalIn_int (P := Try.prog) w d 5 .u8 .u8 a b Try.underlying5
  have hp : Try.prog.stoodInHeld 100 = false := by kernel_rfl
  have ki : Try.prog.plainKey 3 = true := by kernel_rfl
  have k8 : Try.prog.plainKey 5 = true := by kernel_rfl
  rw [run_equalIn_struct w (d + 1) _ _ _ (by kernel_rfl) hp]
  have := fields_run (P := Try.prog) (w := w) (d + 1) #[.int .i64 x.at_, .int .u8 (x.kind.toNat : Int)] #[.int .i64 y.at_, .int .u8 (y.kind.toNat : Int)] [((Try.prog.fieldsOf 100).toList.getD 0 default, .int .i64 x.at_, .int .i64 y.at_, x.at_ == y.at_), ((Try.prog.fieldsOf 100).toList.getD 1 default, .int .u8 (x.kind.toNat : Int), .int .u8 (y.kind.toNat : Int), (x.kind.toNat : Int) == (y.kind.toNat : Int))] (by
      simp only [List.forall_mem_cons]
      exact ⟨⟨by decide, run_part_plain w ki rfl, run_part_plain w ki rfl, hi _ _⟩, ⟨by decide, run_part_plain w k8 rfl, run_part_plain w k8 rfl, h8 _ _⟩, fun _ h => by cases h⟩)
  rw [(by kernel_rfl : (Try.prog.fieldsOf 100).toList = [(Try.prog.fieldsOf 100).toList.getD 0 default, (Try.prog.fieldsOf 100).toList.getD 1 default])]
  refine this.trans ?_
  show Result.ok (_ && (_ && true)) w = _
  rw [Bool.and_true]
  rfl
theorem neq_stop (x y : StopT) (w : World) : (binOp .neq 100 (.agg #[.int .i64 x.at_, .int .u8 (x.kind.toNat : Int)]) (.agg #[.int .i64 y.at_, .int .u8 (y.kind.toNat : Int)])).run Try.prog w = .ok (.bool !(eqStop x y)) w := by
  have hq := eqIn_stop 9998 x y w
  simp only [binOp]
  simp [Op.equal, Op.maxDepth, hq]
theorem Equal_stop (A : Option Addr) (n c : Nat) (l : List StopT) (B : Option Addr) (m d : Nat) (r : List StopT) (ok : Nat → Prop) (w : World) (hl : stopK.Rd w ok A n l) (hr : stopK.Rd w ok B m r) (hn : n ≤ 9223372036854775807) :
    Calls Try.prog 48 #[.slice A n c, .slice B m d] w fun e w' => e = .returned (.bool (all2 eqStop l r)) ∧ Below w.heap.size w w' := by
  have HL := hide hl
  have HR := hide hr
  have hln : l.length = n := hl.1
  have hrn : r.length = m := hr.1
  have HLN := hide hln
  have HRN := hide hrn
  clear hl hr hln hrn
  by_cases hnm : n = m
  · subst hnm
    go_enter Try.func48, Try.ntmps48
    go_wp2_with fail
    go_loopw [5, 13] (fun _ t13 wr => ∃ k : Nat, t13 = .int .i64 k ∧ k ≤ n ∧ Hid (all2 eqStop (l.take k) (r.take k) = true) ∧ Hid (Below w.heap.size w wr)) (fun _ t13 _ => n - (intOf t13).toNat)
    case atStart => exact ⟨0, rfl, Nat.zero_le _, hide (by simp [all2]), hide (Below.refl _ _)⟩
    case round =>
      obtain ⟨k, rfl, hk, HG, HB⟩ := hrel
      by_cases hlt : k < n
      · obtain ⟨x, hx⟩ : ∃ x, l[k]? = some x := ⟨_, List.getElem?_eq_getElem (by have := HLN.out; omega)⟩
        obtain ⟨y, hy⟩ : ∃ y, r[k]? = some y := ⟨_, List.getElem?_eq_getElem (by have := HRN.out; omega)⟩
        obtain ⟨b1, o1, rfl, -, z0, z2⟩ := rd_stop (HL.out.below HB.out) hx
        obtain ⟨b2, o2, rfl, -, z1, z3⟩ := rd_stop (HR.out.below HB.out) hy
        have hts := all2_take eqStop l r k x y hx hy
        rw [HG.out, Bool.true_and] at hts
        have hno := all2_no eqStop l r k x y hx hy
        have HTS := hide hts
        have HNO := hide hno
        have i1 : (0 : Int) ≤ (k : Int) := by omega
        have i2 : (k : Int) < (n : Int) := by omega
        clear hx hy hts hno
        cases hb : eqStop x y with
        | false =>
          have HF := hide hb
          have hne := fun W => neq_stop x y W
          rw [hb] at hne
          clear hb
          go_upto_region 6 with fail
          go_region
          all_goals go_wp2_with fail
          all_goals go_ret
          all_goals exact ⟨ret_bool (HNO.out HF.out).symm, HB.out.drew⟩
        | true =>
          have HF := hide hb
          have hne := fun W => neq_stop x y W
          rw [hb] at hne
          clear hb
          go_upto_region 6 with fail
          go_region
          all_goals go_wp2_with fail
          all_goals go_roundw
          all_goals first
            | exact ⟨k + 1, by go_num, by omega, hide (by rw [HTS.out, HF.out]), hide HB.out.drew⟩
            | (simp [intOf]; omega)
      · have hg := HG.out
        rw [List.take_of_length_le (by have := HLN.out; omega), List.take_of_length_le (by have := HRN.out; omega)] at hg
        have HA := hide hg
        clear hg
        go_wp2_with fail
        go_ret
        exact ⟨ret_bool HA.out.symm, HB.out⟩
  · have hno := all2_len eqStop l r (by have := HLN.out; have := HRN.out; omega)
    have HNO := hide hno
    have hne2 : ((n : Int) == (m : Int)) = false := by simp; omega
    clear hno
    go_enter Try.func48, Try.ntmps48
    go_wp2_with fail
    go_ret
    exact ⟨ret_bool HNO.out.symm, Below.refl _ _⟩
end Go.Proofs.Ytekkjieoikgpmaa
