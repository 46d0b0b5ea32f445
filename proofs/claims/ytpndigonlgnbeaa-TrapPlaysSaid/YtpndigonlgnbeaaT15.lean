/- The law's deeds at a trap table: do; sane. -/
import Derived.Test.YtpndigonlgnbeaaT14
set_option linter.unusedVariables false
set_option linter.unusedSimpArgs false
namespace Go.Proofs.Ytpndigonlgnbeaa
open Go.RowKit
set_option maxHeartbeats 1600000
set_option maxRecDepth 1000000

/-- A deed. -/
structure DeedT where
  k : Int
  a : Int
  s : ByteArray
def DeedT.cells (x : DeedT) : List Value := [.int .i64 x.k, .int .i64 x.a, .string x.s]
/-- What a deed does. -/
def doP (x : DeedT) (ts : List TrapT) : Int × List TrapT :=
  if x.k = 0 then plantP x.a x.s ts else if x.k = 1 then clearP x.a ts else if x.k = 2 then moveP x.s x.a ts else if x.k = 3 then dropP x.s ts else (0, ts)
theorem plantP_len {a : Int} {s : ByteArray} {ts : List TrapT} (h : ts.length ≤ 100) : (plantP a s ts).2.length ≤ 100 := by
  unfold plantP
  split
  · exact h
  · split
    · exact h
    · split
      · exact h
      · simp; omega
theorem clearP_len {a : Int} {ts : List TrapT} (h : ts.length ≤ 100) : (clearP a ts).2.length ≤ 100 := by
  unfold clearP
  split
  · exact h
  · exact Nat.le_trans (List.length_filter_le _ _) h
theorem dropP_len {s : ByteArray} {ts : List TrapT} (h : ts.length ≤ 100) : (dropP s ts).2.length ≤ 100 := by
  unfold dropP
  split
  · exact h
  · exact Nat.le_trans (List.length_filter_le _ _) h
theorem moveP_len {s : ByteArray} {a : Int} {ts : List TrapT} (h : ts.length ≤ 100) : (moveP s a ts).2.length ≤ 100 := by
  unfold moveP
  split
  · exact h
  · split
    · exact h
    · split
      · exact h
      · show (ts.modify _ _).length ≤ 100
        rw [List.length_modify]; exact h
theorem doP_len {x : DeedT} {ts : List TrapT} (h : ts.length ≤ 100) : (doP x ts).2.length ≤ 100 := by
  unfold doP
  split
  · exact plantP_len h
  · split
    · exact clearP_len h
    · split
      · exact moveP_len h
      · split
        · exact dropP_len h
        · exact h

theorem do_trap (base g : Nat) (v : Value) (ts : List TrapT) (x : DeedT) (w : World) (hT : Tab base w g v ts) (hn : ts.length ≤ 1000000) (hbase : base ≤ w.heap.size) (hs : x.s.size ≤ 9223372036854775807) :
    Calls Try.prog 14 #[.pointer (some ⟨g, 0, none⟩), .agg #[.int .i64 x.k, .int .i64 x.a, .string x.s]] w fun e w' => e = .returned (.int .i64 (doP x ts).1) ∧ Mut base w w' g v (doP x ts).2 := by
  obtain ⟨k, a, s⟩ := x
  have hal : Below w.heap.size w (w.alloc (.cells #[.int .i64 k, .int .i64 a, .string s] 43)) := (Below.refl _ _).alloc (Nat.le_refl _) _
  have HT := hide hT
  have HT2 := hide (hT.below hal)
  have HAL := hide hal
  have hlt : ∀ k, v.ownBlock = some k → k < w.heap.size := fun k hk => (hT.own.lt k hk).2
  have HLT := hide hlt
  have hb2 := Nat.le_trans hbase hal.size
  have HB2 := hide hb2
  clear hT hal hlt hb2
  show Calls Try.prog 14 #[.pointer (some ⟨g, 0, none⟩), .agg #[.int .i64 k, .int .i64 a, .string s]] w _
  by_cases h0 : k = 0
  · subst h0
    have e : doP ⟨0, a, s⟩ ts = plantP a s ts := by unfold doP; rw [if_pos rfl]
    rw [e]
    clear e
    obtain ⟨pp, hpp⟩ : ∃ pp, pp = plantP a s ts := ⟨_, rfl⟩
    rw [← hpp]
    have HPP := hide hpp
    clear hpp
    go_enter Try.func14, Try.ntmps14
    go_wp2_with (go_at_call 30; refine (Plant_trap base g v ts a s _ HT2.out hn HB2.out hs).mono ?_; rw [← HPP.out]; rintro e w2 ⟨rfl, q⟩; have Q := hide q; clear q)
    go_ret
    exact ⟨rfl, Q.out.after HAL.out HLT.out⟩
  · by_cases h1 : k = 1
    · subst h1
      have e : doP ⟨1, a, s⟩ ts = clearP a ts := by unfold doP; rw [if_neg (show ¬ (1 : Int) = 0 by omega), if_pos rfl]
      rw [e]
      clear e
      obtain ⟨pp, hpp⟩ : ∃ pp, pp = clearP a ts := ⟨_, rfl⟩
      rw [← hpp]
      have HPP := hide hpp
      clear hpp
      go_enter Try.func14, Try.ntmps14
      go_wp2_with (go_at_call 31; refine (Clear_trap base g v ts a _ HT2.out hn HB2.out).mono ?_; rw [← HPP.out]; rintro e w2 ⟨rfl, q⟩; have Q := hide q; clear q)
      go_ret
      exact ⟨rfl, Q.out.after HAL.out HLT.out⟩
    · by_cases h2 : k = 2
      · subst h2
        have e : doP ⟨2, a, s⟩ ts = moveP s a ts := by unfold doP; rw [if_neg (show ¬ (2 : Int) = 0 by omega), if_neg (show ¬ (2 : Int) = 1 by omega), if_pos rfl]
        rw [e]
        clear e
        obtain ⟨pp, hpp⟩ : ∃ pp, pp = moveP s a ts := ⟨_, rfl⟩
        rw [← hpp]
        have HPP := hide hpp
        clear hpp
        go_enter Try.func14, Try.ntmps14
        go_wp2_with (go_at_call 32; refine (Move_trap base g v ts s a _ HT2.out hn HB2.out hs).mono ?_; rw [← HPP.out]; rintro e w2 ⟨rfl, q⟩; have Q := hide q; clear q)
        go_ret
        exact ⟨rfl, Q.out.after HAL.out HLT.out⟩
      · by_cases h3 : k = 3
        · subst h3
          have e : doP ⟨3, a, s⟩ ts = dropP s ts := by unfold doP; rw [if_neg (show ¬ (3 : Int) = 0 by omega), if_neg (show ¬ (3 : Int) = 1 by omega), if_neg (show ¬ (3 : Int) = 2 by omega), if_pos rfl]
          rw [e]
          clear e
          obtain ⟨pp, hpp⟩ : ∃ pp, pp = dropP s ts := ⟨_, rfl⟩
          rw [← hpp]
          have HPP := hide hpp
          clear hpp
          go_enter Try.func14, Try.ntmps14
          go_wp2_with (go_at_call 33; refine (Drop_trap base g v ts s _ HT2.out hn HB2.out hs).mono ?_; rw [← HPP.out]; rintro e w2 ⟨rfl, q⟩; have Q := hide q; clear q)
          go_ret
          exact ⟨rfl, Q.out.after HAL.out HLT.out⟩
        · have e : doP ⟨k, a, s⟩ ts = (0, ts) := by unfold doP; rw [if_neg h0, if_neg h1, if_neg h2, if_neg h3]
          rw [e]
          clear e
          have b0 : (k == 0) = false := beq_eq_false_iff_ne.2 h0
          have b1 : (k == 1) = false := beq_eq_false_iff_ne.2 h1
          have b2 : (k == 2) = false := beq_eq_false_iff_ne.2 h2
          have b3 : (k == 3) = false := beq_eq_false_iff_ne.2 h3
          clear h0 h1 h2 h3
          go_enter Try.func14, Try.ntmps14
          go_wp2_with fail
          go_ret
          exact ⟨rfl, Mut.same HT.out HAL.out⟩
end Go.Proofs.Ytpndigonlgnbeaa
