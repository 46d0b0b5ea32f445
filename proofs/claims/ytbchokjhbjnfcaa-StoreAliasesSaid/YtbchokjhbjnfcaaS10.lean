/- The store: Macro without lines, Rename. -/
import Derived.Test.YtbchokjhbjnfcaaS9
set_option linter.unusedVariables false
set_option linter.unusedSimpArgs false
namespace Go.Proofs.Ytbchokjhbjnfcaa
open Go.RowKit
set_option maxHeartbeats 1600000
set_option maxRecDepth 1000000

theorem IndexFunc_nil (f : Value) (w : World) : Calls Try.prog 51 #[.slice none 0 0, f] w fun e w' => e = .returned (.int .i64 (-1)) ∧ w = w' := by
  go_enter Try.func51, Try.ntmps51
  go_wp2_with fail
  go_loopw [5, 8] (fun _ t8 wr => t8 = .int .i64 0 ∧ w = wr) (fun _ _ _ => 0)
  case atStart => exact ⟨rfl, rfl⟩
  case round =>
    obtain ⟨rfl, rfl⟩ := hrel
    go_wp2_with fail
    go_ret
    exact ⟨rfl, rfl⟩
theorem ContainsFunc_nil (f : Value) (w : World) : Calls Try.prog 37 #[.slice none 0 0, f] w fun e w' => e = .returned (.bool false) ∧ w = w' := by
  go_enter Try.func37, Try.ntmps37
  go_wp2_with (go_at_call 51; refine (IndexFunc_nil _ _).mono ?_; rintro e w' ⟨rfl, rfl⟩)
  go_ret
  exact ⟨rfl, rfl⟩
/-- 'delete(m, k)' at the operation. -/
theorem wpList_drop {ops : Array Oper} {rest : List Oper} {o : Oper} {a : Act} {Q : Exit → Act → World → Prop} (w : World) (hg : o.guard = none) (m x : Operand) (hop : o.op = Op.call { callee := Callee.builtin Builtin.delete, args := #[m, x], argTypes := #[47, 9] })
    (b sz : Nat) (F : ByteArray → Option Nat) (hm : a.eval m = .map (some b)) (h : MapIs w b F sz) (s : ByteArray) (hs : s.size ≤ 9223372036854775807) (hx : a.eval x = .string s)
    (hK : ∀ w', MapIs w' b (upd F s none) (if (F s).isSome then sz - 1 else sz) → w.grownBy w' (some b) → wpList Try.prog ops Q rest (a.put o.dst (.tuple #[])) w') : wpList Try.prog ops Q (o :: rest) a w := by
  refine wpList_plain hg fun K' hK' => ?_
  obtain ⟨w', hrun, r1, r2⟩ := h.drop hs o.type
  unfold Oper.wp
  simp [execOp, hop, resolve, invoke, builtin, hm, hx, hrun, Result.andThen]
  exact hK' _ _ (hK w' r1 r2)
section
variable {base : Nat} {w : World} {g b : Nat} {F : ByteArray → Option Nat} {sz : Nat} {E : Nat → Option EntS}
theorem Macro_full (h : Sto base w g b F sz E) (s : ByteArray) (hs : s.size ≤ 9223372036854775807) (hnm : nameB s = true) (hf : F s = none) (hsz : 500 ≤ sz) (hsz2 : sz ≤ 1000000) :
    Calls Try.prog 15 #[.pointer (some ⟨g, 0, none⟩), .string s, .slice none 0 0] w fun e w' => e = .returned (.int .i64 9) ∧ Below w.heap.size w w' := by
  have H := hide h
  have c0 := h.c0
  have HNM := hide hnm
  have HHF := hide hf
  clear h hnm hf
  go_enter Try.func15, Try.ntmps15
  go_wp2_with (first
    | (go_at_call 29; refine (gone_some _ _ _ c0).mono ?_; rintro e w' ⟨rfl, rfl⟩)
    | (go_at_call 37; refine (ContainsFunc_nil _ _).mono ?_; rintro e w' ⟨rfl, rfl⟩)
    | (go_at_call 31; refine (named_any _ _ hs).mono ?_; rw [HNM.out]; rintro e w1 ⟨rfl, q⟩; have H1 := hide (H.out.below q); have Q1 := hide q; clear q)
    | (go_at_call 32; refine (put_full H1.out s hs 2 none 0 0 (by omega) HHF.out hsz hsz2).mono ?_; rintro e w2 ⟨rfl, rfl⟩))
  go_ret
  exact ⟨rfl, Q1.out⟩
/-- Only the map has turned. -/
theorem Sto.remap {w' : World} {F' : ByteArray → Option Nat} {sz' : Nat} (h : Sto base w g b F sz E) (hk : Kept (fun k => k = b) w w') (hm : MapIs w' b F' sz') (hF : ∀ s e, F' s = some e → ∃ x, E e = some x) : Sto base w' g b F' sz' E :=
  ⟨blk_kept h.blk hk h.gb, hm, hF, fun e x he => (h.each e x he).kept hk (h.ne_ent he).2 (fun k h1 h2 e' => by have := (h.low e x he).2.2.1; omega), h.low, h.apart, h.hg, h.hb⟩
theorem Rename_ok (h : Sto base w g b F sz E) (s t : ByteArray) (hs : s.size ≤ 9223372036854775807) (ht : t.size ≤ 9223372036854775807) (hnm : nameB t = true) {e : Nat} (hf : F s = some e) (hsz : 0 < sz) (hsz2 : sz ≤ 1000000) (hft : F t = none) :
    Calls Try.prog 17 #[.pointer (some ⟨g, 0, none⟩), .string s, .string t] w fun r w' => r = .returned (.int .i64 0) ∧ Sto base w' g b (upd (upd F s none) t (some e)) sz E ∧ Kept (fun k => k = b) w w' := by
  have H := hide h
  have HNM := hide hnm
  have HHF := hide hf
  have hst : t ≠ s := fun e' => by rw [e', hf] at hft; cases hft
  have HFT := hide (show upd F s none t = none by rw [upd_other _ _ hst]; exact hft)
  clear h hnm hf hft hst
  go_enter Try.func17, Try.ntmps17
  go_upto_region 6 with (first
    | (go_at_call 33; refine (find_some H.out hs HHF.out).mono ?_; rintro r w' ⟨rfl, rfl⟩)
    | (go_at_call 31; refine (named_any _ _ ht).mono ?_; rw [HNM.out]; rintro r w1 ⟨rfl, q⟩; have c0 := (H.out.below q).c0; have H1 := hide (H.out.below q); have Q1 := hide q; clear q))
  go_upto_region 7 with (at_delete; refine wpList_drop _ rfl _ _ rfl b sz F rfl H1.out.map s hs rfl ?_; intro w2 q1 q2; rw [HHF.out] at q1; have q1 : MapIs w2 b (upd F s none) (sz - 1) := q1; have c1 : w2.cell? ⟨g, 0, none⟩ = some (.map (some b)) := (by rw [blk_cell (blk_grown H1.out.blk q2 (fun e' => H1.out.gb (Option.some.inj e')))]; rfl); have HM2 := hide q1; have HG2 := hide q2; clear q1 q2)
  go_wp2_with (at_mapUpdate; refine wpList_put _ rfl _ _ _ rfl b (sz - 1) (upd F s none) rfl HM2.out t ht (by omega) e rfl rfl ?_; intro w3 q1 q2; rw [HFT.out] at q1; have q1 : MapIs w3 b (upd (upd F s none) t (some e)) (sz - 1 + 1) := q1; have HM3 := hide q1; have HG3 := hide q2; clear q1 q2)
  go_ret
  have hk : Kept (fun k => k = b) w1 w3 := (Kept.of_grown HG2.out).trans (Kept.of_grown HG3.out) (fun i _ h => (Option.some.inj h).symm) (fun i _ h => (Option.some.inj h).symm)
  have hm : MapIs w3 b (upd (upd F s none) t (some e)) sz := by
    have h := HM3.out
    rw [show sz - 1 + 1 = sz by omega] at h
    exact h
  refine ⟨rfl, H1.out.remap hk hm (fun u e' hu => ?_), (Kept.of_below (S := fun k => k = b) Q1.out).trans hk (fun _ _ h => h) (fun _ _ h => h)⟩
  by_cases h1 : u = t
  · subst h1
    rw [upd_same] at hu
    injection hu with hu
    subst hu
    exact H1.out.ent s e HHF.out
  · rw [upd_other _ _ h1] at hu
    by_cases h2 : u = s
    · subst h2; rw [upd_same] at hu; cases hu
    · rw [upd_other _ _ h2] at hu
      exact H1.out.ent u e' hu
end
end Go.Proofs.Ytbchokjhbjnfcaa
