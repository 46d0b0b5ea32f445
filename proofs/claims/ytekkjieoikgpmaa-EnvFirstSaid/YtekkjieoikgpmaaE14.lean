/- The environments: Enter, Leave: lemmas; Name, Depth. -/
import Derived.Test.YtekkjieoikgpmaaE13
import Derived.Deep.RegionLaw
set_option linter.unusedVariables false
set_option linter.unusedSimpArgs false
namespace Go.Proofs.Ytekkjieoikgpmaa
open Go.RowKit
set_option maxHeartbeats 3200000
set_option maxRecDepth 1000000

/-- append as one step of a region that draws its order. -/
theorem step_append {P : Program} {ops : Array Oper} {o : Oper} {a : Act} {w w' : World} {K : Act → World → Prop} {Q : Exit → Act → World → Prop} {E : Prop}
    (hg : o.guard = none) (s x : Operand) (t : TypeId) (hop : o.op = Op.call { callee := Callee.builtin Builtin.append, args := #[s, x], argTypes := #[t, t] })
    (sv xv v' : Value) (hs : a.eval s = sv) (hx : a.eval x = xv) (hrun : (Builtin.append_ #[t, t] o.type #[sv, xv]).run P w = .ok v' w')
    (hK : K (a.put o.dst v') w') : if Region.wanted o (yielded ops a.tmps) = true then Oper.wp P o a w K Q else E := by
  have hw : Region.wanted o (yielded ops a.tmps) = true := by simp [Region.wanted, hg]
  rw [if_pos hw]
  unfold Oper.wp
  simp only [execOp, hop, resolve, invoke, builtin, Sem.run_bind, Sem.run_pure, Result.andThen_ok, List.map_toArray, List.map_cons, List.map_nil, hs, hx, hrun]
  exact hK
/-- Another name is the present one. -/
theorem EnvsAt.move {X : Nat → Prop} {w w3 : World} {g b sz : Nat} {F : ByteArray → Option EnvT} {now : ByteArray} {sv : Value} {L : List ByteArray} (h : EnvsAt X w g b F sz now sv L) {s : ByteArray} {v' : Value} {L' : List ByteArray} (hk : Kept (fun k => k = g ∨ sv.ownBlock = some k) w w3)
    (hb : w3.heap[g]? = some (.cells #[.map (some b), .string s, v'] 67 (0, 0))) (hst : Stk w3 v' L') (hv : ∀ k, v'.ownBlock = some k → sv.ownBlock = some k ∨ w.heap.size ≤ k) (hs : ∃ x, F s = some x) (hl : ∀ t, t ∈ L' → ∃ x, F t = some x) (hL : L'.length ≤ 20) :
    EnvsAt X w3 g b F sz s v' L' := by
  obtain ⟨V, h1, h2⟩ := h.map
  have hbl := h1.lt
  have hno : ¬ (b = g ∨ sv.ownBlock = some b) := fun e => e.elim (fun e => h.gb e.symm) h.bs
  refine ⟨hb, ⟨V, h1.step (hk.block b hbl hno), fun t => ⟨(h2 t).1, fun x hx => ?_⟩⟩, hst, h.small, h.named, hs, hl, hL, h.most, fun k e => Nat.lt_of_lt_of_le (h.xlt k e) hk.size⟩
  obtain ⟨cs, h3, h4⟩ := (h2 t).2 x hx
  refine ⟨cs, h3, envK.weaken (ok := fun k => (¬ (Mut g b sv k ∨ X k)) ∧ k < w.heap.size) (fun k hk1 hm => ?_) (Kind.step (envK.bound h4) (fun k hk1 hk2 => hk.block k hk2 (fun e => hk1.1 (.inl (e.elim .inl (fun e => .inr (.inr e)))))))⟩
  rcases hm with (hm | hm | hm) | hm
  · exact hk1.1 (.inl (.inl hm))
  · exact hk1.1 (.inl (.inr (.inl hm)))
  · rcases hv k hm with e | e
    · exact hk1.1 (.inl (.inr (.inr e)))
    · omega
  · exact hk1.1 (.inr hm)
/-- What is kept of other memory: blocks that may not turn. -/
theorem kept_mut {w w' : World} {g b : Nat} {sv v' : Value} {α : Type} {d : Kind α} {x : α} {cs : List Value} (hk : Kept (Mut g b sv) w w') (hv : ∀ k, v'.ownBlock = some k → sv.ownBlock = some k ∨ w.heap.size ≤ k) (h : d.K w (fun k => ¬ Mut g b sv k) x cs) : d.K w' (fun k => ¬ Mut g b v' k) x cs := by
  refine d.weaken (ok := fun k => (¬ Mut g b sv k) ∧ k < w.heap.size) (fun k hk1 hm => ?_) (Kind.step (d.bound h) (fun k hk1 hk2 => hk.block k hk2 hk1.1))
  rcases hm with hm | hm | hm
  · exact hk1.1 (.inl hm)
  · exact hk1.1 (.inr (.inl hm))
  · rcases hv k hm with e | e
    · exact hk1.1 (.inr (.inr e))
    · omega
section
variable {X : Nat → Prop} {w : World} {g b sz : Nat} {F : ByteArray → Option EnvT} {now : ByteArray} {sv : Value} {L : List ByteArray} (h : EnvsAt X w g b F sz now sv L)
include h
theorem Depth_any : Calls Try.prog 22 #[.pointer (some ⟨g, 0, none⟩)] w fun e w' => e = .returned (.int .i64 L.length) ∧ w = w' := by
  obtain ⟨c0, c1, c2⟩ := h.cells
  obtain ⟨A, c, rfl, -, -⟩ := h.stack.form
  clear h c1
  go_enter Try.func22, Try.ntmps22
  go_wp2_with (go_at_call 51; refine (none_at _ _ _ c0).mono ?_; rintro e w' ⟨rfl, rfl⟩)
  go_ret
  exact ⟨rfl, rfl⟩
theorem Name_any : Calls Try.prog 24 #[.pointer (some ⟨g, 0, none⟩)] w fun e w' => e = .returned (.string now) ∧ w = w' := by
  obtain ⟨c0, c1, c2⟩ := h.cells
  clear h c2
  go_enter Try.func24, Try.ntmps24
  go_wp2_with (go_at_call 51; refine (none_at _ _ _ c0).mono ?_; rintro e w' ⟨rfl, rfl⟩)
  go_ret
  exact ⟨rfl, rfl⟩
theorem Leave_none (hL : L = []) : Calls Try.prog 23 #[.pointer (some ⟨g, 0, none⟩)] w fun e w' => e = .returned (.int .i64 8) ∧ w = w' := by
  subst hL
  obtain ⟨c0, c1, c2⟩ := h.cells
  obtain ⟨A, c, rfl, -, -⟩ := h.stack.form
  clear h c1
  go_enter Try.func23, Try.ntmps23
  go_wp2_with (go_at_call 51; refine (none_at _ _ _ c0).mono ?_; rintro e w' ⟨rfl, rfl⟩)
  go_ret
  exact ⟨rfl, rfl⟩
end
end Go.Proofs.Ytekkjieoikgpmaa
