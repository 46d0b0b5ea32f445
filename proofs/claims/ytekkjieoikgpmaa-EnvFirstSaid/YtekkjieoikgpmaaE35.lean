/- Envs as the laws use them: Put of what is changed; what is saved; Enter, Leave in one word. -/
import Derived.Test.YtekkjieoikgpmaaE28
import Derived.Test.YtekkjieoikgpmaaE16
set_option linter.unusedVariables false
set_option linter.unusedSimpArgs false
namespace Go.Proofs.Ytekkjieoikgpmaa
open Go.RowKit
set_option maxHeartbeats 1600000
set_option maxRecDepth 1000000
/-- An environment that lies in a block of its own, and does not turn. -/
def Saved (w : World) (g b : Nat) (sv : Value) (B : Nat) (x : EnvT) : Prop := ¬ Mut g b sv B ∧ ∃ cs, w.heap[B]? = some (.cells cs.toArray 29 (0, 0)) ∧ envK.K w (fun k => ¬ Mut g b sv k) x cs
theorem Saved.lt {w : World} {g b : Nat} {sv : Value} {B : Nat} {x : EnvT} (h : Saved w g b sv B x) : B < w.heap.size := by
  obtain ⟨-, cs, h1, -⟩ := h
  exact blk_lt h1
theorem not_mut {g b : Nat} {sv sv' : Value} {k n : Nat} (h : ¬ Mut g b sv k) (hk : k < n) (hv : ∀ k, sv'.ownBlock = some k → sv.ownBlock = some k ∨ n ≤ k) : ¬ Mut g b sv' k := by
  rintro (e | e | e)
  · exact h (.inl e)
  · exact h (.inr (.inl e))
  · rcases hv k e with e | e
    · exact h (.inr (.inr e))
    · omega
theorem Saved.kept {w w' : World} {g b : Nat} {sv sv' : Value} {B : Nat} {x : EnvT} (h : Saved w g b sv B x) (hk : Kept (Mut g b sv) w w') (hv : ∀ k, sv'.ownBlock = some k → sv.ownBlock = some k ∨ w.heap.size ≤ k) : Saved w' g b sv' B x := by
  have hB := h.lt
  obtain ⟨h0, cs, h1, h2⟩ := h
  exact ⟨not_mut h0 hB hv, cs, blk_kept h1 hk h0, kept_mut hk hv h2⟩
theorem Saved.keep {w w' : World} {g b : Nat} {sv : Value} {B : Nat} {x : EnvT} (h : Saved w g b sv B x) (hk : Kept (Mut g b sv) w w') : Saved w' g b sv B x := h.kept hk (fun _ h => .inl h)
/-- What Put answers. -/
def putR (x : EnvT) : Int := if validE x then 0 else 1
/-- Put: whatever the environment is. -/
theorem Put_any {X : Nat → Prop} {w : World} {g b sz : Nat} {F : ByteArray → Option EnvT} {now : ByteArray} {sv : Value} {L : List ByteArray} (h : EnvsAt X w g b F sz now sv L) {x : EnvT} {cs : List Value} {ok : Nat → Prop} (hK : envK.K w ok x cs) (hs : x.small) :
    Calls Try.prog 19 #[.pointer (some ⟨g, 0, none⟩), .agg cs.toArray] w fun e w' => e = .returned (.int .i64 (putR x)) ∧ EnvsAt X w' g b (if validE x then updT F now x else F) sz now sv L ∧ Kept (fun k => k = b) w w' := by
  cases hv : validE x with
  | true =>
    refine (Put_ok h hK hs hv).mono ?_
    rintro e w' ⟨rfl, h1, h2⟩
    exact ⟨by unfold putR; rw [hv]; rfl, h1, h2⟩
  | false =>
    refine (Put_bad h hK hs hv).mono ?_
    rintro e w' ⟨rfl, h1⟩
    exact ⟨by unfold putR; rw [hv]; rfl, h.below h1, Kept.of_below h1⟩
/-- What the map is behind a Put. -/
def putF (F : ByteArray → Option EnvT) (now : ByteArray) (x : EnvT) : ByteArray → Option EnvT := if validE x then updT F now x else F
theorem putF_other {F : ByteArray → Option EnvT} {now s : ByteArray} {x : EnvT} (h : s ≠ now) : putF F now x s = F s := by
  unfold putF
  split
  · exact updT_other _ _ h
  · rfl
theorem putF_some {F : ByteArray → Option EnvT} {now s : ByteArray} {x : EnvT} (h : ∃ y, F s = some y) : ∃ y, putF F now x s = some y := by
  unfold putF
  split
  · by_cases e : s = now
    · subst e; exact ⟨x, updT_same _ _ _⟩
    · rw [updT_other _ _ e]; exact h
  · exact h
/-- Enter where there is room. -/
theorem Enter_any {X : Nat → Prop} {w : World} {g b sz : Nat} {F : ByteArray → Option EnvT} {now : ByteArray} {sv : Value} {L : List ByteArray} (h : EnvsAt X w g b F sz now sv L) {s : ByteArray} (hsn : s.size ≤ 9223372036854775807) (hnb : nameB s = true) (hL : L.length < 20) (h50 : sz < 50) :
    Calls Try.prog 20 #[.pointer (some ⟨g, 0, none⟩), .string s] w fun e w' => e = .returned (.int .i64 0) ∧ ∃ sv' F' sz', EnvsAt X w' g b F' sz' s sv' (L ++ [now]) ∧ ((F' = F ∧ sz' = sz) ∨ (F s = none ∧ F' = updT F s firstT ∧ sz' = sz + 1)) ∧ Kept (Mut g b sv) w w' ∧ (∀ k, sv'.ownBlock = some k → sv.ownBlock = some k ∨ w.heap.size ≤ k) := by
  cases hx : F s with
  | none =>
    refine (Enter_new h hsn hx hnb hL h50).mono ?_
    rintro e w' ⟨rfl, sv', h1, h2, h3⟩
    exact ⟨rfl, sv', _, _, h1, .inr ⟨rfl, rfl, rfl⟩, h2, h3⟩
  | some x =>
    refine (Enter_old h hx hnb hL).mono ?_
    rintro e w' ⟨rfl, sv', h1, h2, h3⟩
    exact ⟨rfl, sv', _, _, h1, .inl ⟨rfl, rfl⟩, h2, h3⟩
/-- Enter where it is too deep. -/
theorem Enter_deep {X : Nat → Prop} {w : World} {g b sz : Nat} {F : ByteArray → Option EnvT} {now : ByteArray} {sv : Value} {L : List ByteArray} (h : EnvsAt X w g b F sz now sv L) {s : ByteArray} (hsn : s.size ≤ 9223372036854775807) (hnb : nameB s = true) (hL : L.length = 20) :
    Calls Try.prog 20 #[.pointer (some ⟨g, 0, none⟩), .string s] w fun e w' => e = .returned (.int .i64 2) ∧ Below w.heap.size w w' := by
  cases hx : F s with
  | none => exact Enter_deep_none h hsn hx hnb hL
  | some x => exact Enter_deep_some h hx hnb hL
/-- The name at the bottom. -/
def bottom (L : List ByteArray) (now : ByteArray) : Option ByteArray := (L ++ [now]).head?
theorem bottom_nil (now : ByteArray) : bottom [] now = some now := rfl
theorem bottom_enter (L : List ByteArray) (now s : ByteArray) : bottom (L ++ [now]) s = bottom L now := by
  unfold bottom
  cases L with
  | nil => rfl
  | cons a L => rfl
end Go.Proofs.Ytekkjieoikgpmaa
