/- The trap table: Passed; drop, Clear, Drop, Move, Plant. -/
import Derived.Test.YtpndigonlgnbeaaT11
set_option linter.unusedVariables false
set_option linter.unusedSimpArgs false
namespace Go.Proofs.Ytpndigonlgnbeaa
open Go.RowKit
set_option maxHeartbeats 1600000
set_option maxRecDepth 1000000

def outP (f t : Int) (x : TrapT) : Bool := decide (x.at_ ≤ f) || decide (t < x.at_)
theorem passed1_any (x : TrapT) (b6 b7 : Nat) (f t : Int) (w : World) (h6 : w.cell? ⟨b6, 0, none⟩ = some (.int .i64 f)) (h7 : w.cell? ⟨b7, 0, none⟩ = some (.int .i64 t)) :
    Calls Try.prog 25 #[.agg #[.int .i64 x.at_, .string x.nm], .pointer (some ⟨b6, 0, none⟩), .pointer (some ⟨b7, 0, none⟩)] w fun e w' => e = .returned (.bool (outP f t x)) ∧ Below w.heap.size w w' := by
  have ho : Hid (outP f t x = (decide (x.at_ ≤ f) || decide (t < x.at_))) := rfl
  have l6 := cell_lt h6
  have l7 := cell_lt h7
  by_cases h1 : x.at_ ≤ f
  · go_enter Try.func25, Try.ntmps25
    go_wp2_with fail
    go_ret
    exact ⟨by rw [ho.out, decide_eq_true h1]; rfl, (Below.refl _ _).alloc (Nat.le_refl _) _⟩
  · go_enter Try.func25, Try.ntmps25
    go_wp2_with fail
    go_ret
    exact ⟨by rw [ho.out, decide_eq_false (show ¬ x.at_ ≤ f by omega)]; rfl, (Below.refl _ _).alloc (Nat.le_refl _) _⟩

/-- The traps that are passed between two places of a page. -/
def passP (len f t : Int) (ts : List TrapT) : List TrapT := (onP len ts).filter fun x => !outP f t x
theorem onP_len (len : Int) (ts : List TrapT) : (onP len ts).length ≤ ts.length := by
  unfold onP
  rw [TS.isort_length]
  exact List.length_filterMap_le _ _

theorem Passed_ok (base g : Nat) (v : Value) (ts : List TrapT) (len f t : Int) (w : World) (hT : Tab base w g v ts) (hn : ts.length ≤ 1000000) (h1 : ¬ len < 0) (h2 : ¬ 1000000 < len) (h3 : ¬ f < -1) (h4 : ¬ 1000000 < t) (h5 : ¬ t < f) :
    Calls Try.prog 9 #[.pointer (some ⟨g, 0, none⟩), .int .i64 len, .int .i64 f, .int .i64 t] w fun e w' => ∃ v', e = .returned (.tuple #[v', .int .i64 0]) ∧ trapK.Own 33 w' (fun _ => False) w.heap.size v' (passP len f t ts) ∧ Below w.heap.size w w' := by
  have HT := hide hT
  have hal1 : Below w.heap.size w (w.alloc (.cells #[.int .i64 f] 3)) := (Below.refl _ _).alloc (Nat.le_refl _) _
  have hal2 : Below w.heap.size w ((w.alloc (.cells #[.int .i64 f] 3)).alloc (.cells #[.int .i64 t] 3)) := hal1.alloc hal1.size _
  have hc1 : ((w.alloc (.cells #[.int .i64 f] 3)).alloc (.cells #[.int .i64 t] 3)).cell? ⟨g, 1, none⟩ = some (.bool true) := (hT.below hal2).c1
  have hs2 : ((w.alloc (.cells #[.int .i64 f] 3)).alloc (.cells #[.int .i64 t] 3)).heap.size = w.heap.size + 2 := by simp
  have hb6 : ((w.alloc (.cells #[.int .i64 f] 3)).alloc (.cells #[.int .i64 t] 3)).heap[w.heap.size]? = some (.cells #[.int .i64 f] 3 (0, 0)) := blk_alloc (blk_new w _) _
  have hb7 : ((w.alloc (.cells #[.int .i64 f] 3)).alloc (.cells #[.int .i64 t] 3)).heap[w.heap.size + 1]? = some (.cells #[.int .i64 t] 3 (0, 0)) := by
    have := blk_new (w.alloc (.cells #[.int .i64 f] 3)) (.cells #[.int .i64 t] 3)
    simpa using this
  have HT2 := hide (hT.below hal2)
  have B6 := hide hb6
  have B7 := hide hb7
  have AL := hide hal2
  have HS := hide hs2
  clear hal1 hal2 hb6 hb7 hs2 hT
  have hol := onP_len len ts
  go_enter Try.func9, Try.ntmps9
  go_wp2_with (first
    | (go_at_call 23; refine (none_some _ _ _ hc1).mono ?_; rintro e w' ⟨rfl, rfl⟩)
    | (go_at_call 10; refine (On_trap base g v ts len _ HT2.out hn).mono ?_; rintro e w2 ⟨v2, rfl, q1, q2⟩; obtain ⟨A2, c2, rfl, -, -, -, -, -⟩ := Kind.Own.form q1; have Q1 := hide q1; have Q2 := hide q2; clear q1 q2)
    | (go_at_call 24
       refine (DeleteFunc_trap 25 #[.pointer (some ⟨w.heap.size, 0, none⟩), .pointer (some ⟨w.heap.size + 1, 0, none⟩)] (fun _ _ => rfl) (outP f t) A2 (onP len ts).length c2 (onP len ts) _ _ Q1.out (by omega) ?_).mono ?_
       · intro W x hk
         have hlt := fun k hk => (Q1.out.lt k hk).1
         rw [HS.out] at hlt
         have z6 := blk_kept (blk_below B6.out Q2.out (by rw [HS.out]; omega)) hk (fun e => by have := hlt _ e; omega)
         have z7 := blk_kept (blk_below B7.out Q2.out (by rw [HS.out]; omega)) hk (fun e => by have := hlt _ e; omega)
         exact passed1_any x _ _ f t W (by rw [blk_cell z6]; rfl) (by rw [blk_cell z7]; rfl)
       rintro e w3 ⟨v3, rfl, q1, q2, q3⟩
       have P1 := hide q1
       have P2 := hide q2
       clear q1 q2 q3))
  go_ret2
  refine ⟨_, rfl, P1.out.lower AL.out.size, ?_⟩
  have hk := P2.out.below (B := w.heap.size) (Nat.le_trans AL.out.size Q2.out.size) (fun i h => Nat.le_trans AL.out.size (Q1.out.lt i h).1)
  exact (AL.out.trans (Q2.out.mono AL.out.size)).trans hk

theorem Passed_bad (base g : Nat) (v : Value) (ts : List TrapT) (len f t : Int) (w : World) (hT : Tab base w g v ts) (hbad : len < 0 ∨ 1000000 < len ∨ f < -1 ∨ 1000000 < t ∨ t < f) :
    Calls Try.prog 9 #[.pointer (some ⟨g, 0, none⟩), .int .i64 len, .int .i64 f, .int .i64 t] w fun e w' => e = .returned (.tuple #[.slice none 0 0, .int .i64 1]) ∧ Below w.heap.size w w' := by
  have hal1 : Below w.heap.size w (w.alloc (.cells #[.int .i64 f] 3)) := (Below.refl _ _).alloc (Nat.le_refl _) _
  have hal2 : Below w.heap.size w ((w.alloc (.cells #[.int .i64 f] 3)).alloc (.cells #[.int .i64 t] 3)) := hal1.alloc hal1.size _
  have hc1 : ((w.alloc (.cells #[.int .i64 f] 3)).alloc (.cells #[.int .i64 t] 3)).cell? ⟨g, 1, none⟩ = some (.bool true) := (hT.below hal2).c1
  have AL := hide hal2
  clear hal1 hal2 hT
  have hb := hide hbad
  clear hbad
  have key : ∀ h1 : (len < 0 ∨ ¬ len < 0), (1000000 < len ∨ ¬ 1000000 < len) → (f < -1 ∨ ¬ f < -1) → (1000000 < t ∨ ¬ 1000000 < t) → Calls Try.prog 9 #[.pointer (some ⟨g, 0, none⟩), .int .i64 len, .int .i64 f, .int .i64 t] w fun e w' => e = .returned (.tuple #[.slice none 0 0, .int .i64 1]) ∧ Below w.heap.size w w' := by
    intro h1 h2 h3 h4
    rcases h1 with h1 | h1
    · clear h2 h3 h4 hb
      go_enter Try.func9, Try.ntmps9
      go_wp2_with (go_at_call 23; refine (none_some _ _ _ hc1).mono ?_; rintro e w' ⟨rfl, rfl⟩)
      go_ret2
      exact ⟨rfl, AL.out⟩
    rcases h2 with h2 | h2
    · clear h3 h4 hb
      go_enter Try.func9, Try.ntmps9
      go_wp2_with (go_at_call 23; refine (none_some _ _ _ hc1).mono ?_; rintro e w' ⟨rfl, rfl⟩)
      go_ret2
      exact ⟨rfl, AL.out⟩
    rcases h3 with h3 | h3
    · clear h4 hb
      go_enter Try.func9, Try.ntmps9
      go_wp2_with (go_at_call 23; refine (none_some _ _ _ hc1).mono ?_; rintro e w' ⟨rfl, rfl⟩)
      go_ret2
      exact ⟨rfl, AL.out⟩
    rcases h4 with h4 | h4
    · clear hb
      go_enter Try.func9, Try.ntmps9
      go_wp2_with (go_at_call 23; refine (none_some _ _ _ hc1).mono ?_; rintro e w' ⟨rfl, rfl⟩)
      go_ret2
      exact ⟨rfl, AL.out⟩
    have h5 : t < f := by have := hb.out; omega
    clear hb
    go_enter Try.func9, Try.ntmps9
    go_wp2_with (go_at_call 23; refine (none_some _ _ _ hc1).mono ?_; rintro e w' ⟨rfl, rfl⟩)
    go_ret2
    exact ⟨rfl, AL.out⟩
  exact key (Classical.em _) (Classical.em _) (Classical.em _) (Classical.em _)
end Go.Proofs.Ytpndigonlgnbeaa
