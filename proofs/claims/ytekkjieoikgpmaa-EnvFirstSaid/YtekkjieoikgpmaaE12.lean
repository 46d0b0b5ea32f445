/- The environments: Put. -/
import Derived.Test.YtekkjieoikgpmaaE11
import Derived.OrdersHeld
set_option linter.unusedVariables false
set_option linter.unusedSimpArgs false
namespace Go.Proofs.Ytekkjieoikgpmaa
open Go.RowKit
set_option maxHeartbeats 3200000
set_option maxRecDepth 1000000

/-- A whole row is loaded, at an operation under a guard that lets it. -/
theorem wpList_load_g {P : Program} {ops : Array Oper} {rest : List Oper} {o : Oper} {a : Act} {w : World} {Q : Exit → Act → World → Prop} (hw : Region.wanted o (yielded ops a.tmps) = true) (ty : TypeId) (x : Operand) (ho : o.op = .load ty x)
    (g : Nat) (hx : a.eval x = .pointer (some ⟨g, 0, none⟩)) (t : TypeId) (cs : Array Value) (fr : Nat × Nat) (d : TypeDesc) (hg : w.heap[g]? = some (.cells cs t fr))
    (hu : P.underlying ty = some d) (hd : (match d with | .struct _ | .array _ _ => true | _ => false) = true) (hi : (P.info? ty).map (·.size) = some cs.size)
    (h : wpList P ops Q rest (a.put o.dst (.agg cs)) w) : wpList P ops Q (o :: rest) a w :=
  wpList_step fun K hK => by rw [if_pos hw]; exact wp_load_row ty x ho g hx t cs fr d hg hu hd hi (hK _ _ h)
/-- A whole row is loaded, in a region that draws its order: it may be taken first. -/
theorem yieldsIf_load_row {P : Program} {ops : Array Oper} {S : World → Prop} {op : Oper} {a : Act} (hw : Region.wanted op (yielded ops a.tmps) = true) (ty : TypeId) (x : Operand) (ho : op.op = .load ty x)
    (g : Nat) (hx : a.eval x = .pointer (some ⟨g, 0, none⟩)) (t : TypeId) (cs : Array Value) (fr : Nat × Nat) (d : TypeDesc) (hS : ∀ w, S w → w.heap[g]? = some (.cells cs t fr))
    (hu : P.underlying ty = some d) (hd : (match d with | .struct _ | .array _ _ => true | _ => false) = true) (hi : (P.info? ty).map (·.size) = some cs.size) : YieldsIf P ops S op (.agg cs) a :=
  .inl ⟨hw, fun w hw' => by
    unfold execOp
    simp only [ho, hx, Instr.loadAt, Instr.sureAddr, Sem.run_bind, Sem.run_pure, Result.andThen_ok, run_loadVar_row w g t ty cs fr d (hS w hw') hu hd hi]⟩
/-- One name's environment is set. -/
theorem EnvsAt.set {X : Nat → Prop} {w w3 : World} {g b sz sz' : Nat} {F : ByteArray → Option EnvT} {now : ByteArray} {sv : Value} {L : List ByteArray} (h : EnvsAt X w g b F sz now sv L) {s : ByteArray} {x : EnvT} {cs : List Value} (hk : Kept (fun k => k = b) w w3)
    {V : ByteArray → Option Value} (h2 : ValsAt w (fun k => Mut g b sv k ∨ X k) F V) (hm : MapV w3 b (upd V s (some (.agg cs.toArray))) sz') (hK : envK.K w3 (fun k => ¬ (Mut g b sv k ∨ X k)) x cs) (hx : x.small) (hs : s.size ≤ 20) (h50 : sz' ≤ 50) : EnvsAt X w3 g b (updT F s x) sz' now sv L := by
  have hml := h.mut_lt
  refine ⟨blk_kept h.blk hk (fun e => h.gb e), ⟨_, hm, fun t => ⟨fun ht => ?_, fun y hy => ?_⟩⟩, h.stack.step (fun k hk2 => hk.block k (h.stack.lt k hk2) (fun e => h.bs (by rw [hk2, e]))), fun t y hy => ?_, fun t y hy => ?_, ?_, fun t ht => ?_, h.depth, h50, fun k e => Nat.lt_of_lt_of_le (h.xlt k e) hk.size⟩
  · by_cases e : t = s
    · subst e; rw [updT_same] at ht; cases ht
    · rw [updT_other _ _ e] at ht
      rw [upd_other _ _ e]
      exact (h2 t).1 ht
  · by_cases e : t = s
    · subst e
      rw [updT_same] at hy
      obtain rfl := Option.some.inj hy
      exact ⟨cs, upd_same _ _ _, hK⟩
    · rw [updT_other _ _ e] at hy
      rw [upd_other _ _ e]
      obtain ⟨cs', h3, h4⟩ := (h2 t).2 y hy
      exact ⟨cs', h3, Kind.step h4 (fun k hk1 hk2 => hk.block k hk2 (fun e => hk1 (.inl (.inr (.inl e)))))⟩
  · by_cases e : t = s
    · subst e
      rw [updT_same] at hy
      obtain rfl := Option.some.inj hy
      exact hx
    · rw [updT_other _ _ e] at hy; exact h.small t y hy
  · by_cases e : t = s
    · subst e; exact hs
    · rw [updT_other _ _ e] at hy; exact h.named t y hy
  · by_cases e : now = s
    · exact ⟨x, by rw [← e, updT_same]⟩
    · rw [updT_other _ _ e]; exact h.here
  · by_cases e : t = s
    · exact ⟨x, by rw [← e, updT_same]⟩
    · rw [updT_other _ _ e]; exact h.left t ht
section
variable {X : Nat → Prop} {w : World} {g b sz : Nat} {F : ByteArray → Option EnvT} {now : ByteArray} {sv : Value} {L : List ByteArray} (h : EnvsAt X w g b F sz now sv L) {x : EnvT} {cs : List Value} {ok : Nat → Prop} (hK : envK.K w ok x cs) (hs : x.small)
include h hK hs
theorem Put_bad (hv : validE x = false) :
    Calls Try.prog 19 #[.pointer (some ⟨g, 0, none⟩), .agg cs.toArray] w fun e w' => e = .returned (.int .i64 1) ∧ Below w.heap.size w w' := by
  obtain ⟨c0, c1, c2⟩ := h.cells
  have H := hide h
  have HK := hide hK
  have HS := hide hs
  have HV := hide hv
  have hcl : cs.toArray.size = 40 := by have : cs.length = 40 := envK.len hK; simpa using this
  have HCL := hide hcl
  clear h hK hs hv c1 c2 hcl
  go_enter Try.func19, Try.ntmps19
  go_upto_region 1 with fail
  refine wp_one ?_
  intro W0 hb hbel hsz
  have d0 := cell_stays hbel c0
  have HB := hide hb
  have HBEL := hide hbel
  clear hb hbel c0
  go_wp2_with (first
    | refine wpList_load_g (by rfl) 29 _ rfl w.heap.size rfl 29 _ (0, 0) _ HB.out Try.underlying29 rfl (by rw [size_env, HCL.out]) ?_
    | (go_at_call 51; refine (none_at _ _ _ d0).mono ?_; rintro e w' ⟨rfl, rfl⟩)
    | (go_at_call 14; refine (Valid_env x cs _ _ (Kind.below HK.out HBEL.out) HS.out).mono ?_; rw [HV.out]; rintro e w2 ⟨rfl, q⟩; have Q := hide q; clear q))
  go_ret
  exact ⟨rfl, HBEL.out.trans (Q.out.mono HBEL.out.size)⟩
end
end Go.Proofs.Ytekkjieoikgpmaa
