/- Contracts of the small functions of chapter 15 and of the library's functions that take a predicate. -/
import Derived.Test.YtpndigonlgnbeaaRows
import Derived.Test.YtpndigonlgnbeaaBase
set_option linter.unusedVariables false
set_option linter.unusedSimpArgs false
namespace Go.Proofs.Ytpndigonlgnbeaa
open Go.RowKit
set_option maxHeartbeats 400000

structure TrapT where
  at_ : Int
  nm : ByteArray
/-- A trap's two cells. -/
def TrapT.cells (x : TrapT) : List Value := [.int .i64 x.at_, .string x.nm]
def trapK : Kind TrapT where
  sz := 2
  K := fun _ _ x cs => cs = x.cells
  len := fun h => by rw [h]; rfl
  one := fun h u hu => by
    rw [h] at hu
    simp only [TrapT.cells, List.mem_cons, List.not_mem_nil, or_false] at hu
    rcases hu with rfl | rfl <;> rfl
  weaken := fun _ h => h
  bound := fun h => h
  move := fun _ h => h

/-- What is asked of a predicate: whatever world has come of w (blocks of S may have turned), the call says p and makes new memory alone. -/
def PredT (S : Nat → Prop) (g : Nat) (lb : Array Value) (p : TrapT → Bool) (w : World) : Prop :=
  ∀ (W : World) (x : TrapT), Kept S w W → Calls Try.prog g (#[.agg #[.int .i64 x.at_, .string x.nm]] ++ lb) W fun e W' => e = .returned (.bool (p x)) ∧ Below W.heap.size W W'
def idxI {α : Type} (p : α → Bool) (l : List α) : Int := match l.findIdx? p with | some i => (i : Int) | none => -1
theorem idxI_hit {α : Type} (p : α → Bool) (l : List α) (k : Nat) (hk : k < l.length) (hp : p l[k] = true) (hb : ∀ j (h : j < k), p (l[j]'(by omega)) = false) : idxI p l = k := by
  unfold idxI
  have : l.findIdx? p = some k := by
    rw [List.findIdx?_eq_some_iff_getElem]
    exact ⟨hk, hp, fun j hj => by rw [hb j hj]; simp⟩
  rw [this]
theorem idxI_miss {α : Type} (p : α → Bool) (l : List α) (hb : ∀ j (h : j < l.length), p l[j] = false) : idxI p l = -1 := by
  unfold idxI
  have : l.findIdx? p = none := by
    rw [List.findIdx?_eq_none_iff]
    intro x hx
    obtain ⟨j, hj, rfl⟩ := List.mem_iff_getElem.1 hx
    exact hb j hj
  rw [this]

theorem IndexFunc_trap (g : Nat) (lb : Array Value) (eg : ∀ args w, (callFunc g args).run Try.prog w = .ok (.enter g args) w) (p : TrapT → Bool) (A : Option Addr) (n c : Nat) (l : List TrapT) (ok S : Nat → Prop) (w : World)
    (hr : trapK.Rd w ok A n l) (hn : n ≤ 1000000000000) (hp : PredT S g lb p w) :
    Calls Try.prog 48 #[.slice A n c, .func (.func g) #[] lb] w fun e w' => e = .returned (.int .i64 (idxI p l)) ∧ Below w.heap.size w w' := by
  go_enter Try.func48, Try.ntmps48
  go_wp2
  go_loopw [5, 8] (fun j i wr => ∃ k : Nat, k ≤ n ∧ i = .int .i64 k ∧ Below w.heap.size w wr ∧ Hid (∀ j (h : j < l.length), j < k → p l[j] = false)) (fun _ i wr => n - (intOf i).toNat)
  case atStart => exact ⟨0, Nat.zero_le _, rfl, Below.refl _ _, fun j h hj => absurd hj (by omega)⟩
  case round =>
    obtain ⟨k, hk, rfl, hb, hno⟩ := hrel
    have HR := hide hr
    have HB := hide hb
    clear hr hb
    by_cases hlt : k < n
    · have hl : k < l.length := by have := HR.out.1; omega
      obtain ⟨b, off, cs, rfl, hblt, hK, hcell⟩ := (HR.out.below HB.out).at_ hl
      subst hK
      have c0 : wr.cell? ⟨b, off + k * 2, none⟩ = some (.int .i64 l[k].at_) := hcell 0 _ rfl
      have c1 : wr.cell? ⟨b, off + k * 2 + 1, none⟩ = some (.string l[k].nm) := hcell 1 _ rfl
      clear hcell
      have hcall := hide (hp wr l[k] (Kept.of_below HB.out))
      clear hp
      go_wp2_with (go_at_fn g; refine (hcall.out).mono ?_; rintro e w' ⟨rfl, hb'⟩)
      · have hq : p l[k] = true := by assumption
        go_ret
        exact ⟨ret_int (idxI_hit p l k hl hq fun j hj => hno.out j (by omega) hj).symm, below_self HB.out hb'⟩
      · have hq : p l[k] = false := by assumption
        go_roundw
        case rel => exact ⟨k + 1, by omega, by go_num, below_self HB.out hb', fun j h hj => by
          rcases Nat.lt_or_ge j k with h1 | h1
          · exact hno.out j h h1
          · have : j = k := by omega
            subst this; exact hq⟩
        case measure => simp [intOf]; omega
    · go_wp2
      go_ret
      exact ⟨ret_int (idxI_miss p l fun j h => hno.out j h (by have := HR.out.1; omega)).symm, HB.out⟩
end Go.Proofs.Ytpndigonlgnbeaa
