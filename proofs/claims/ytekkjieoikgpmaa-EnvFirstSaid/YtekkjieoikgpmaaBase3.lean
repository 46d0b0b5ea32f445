/- append onto a row of the call's own, told by kinds: what is appended may be nil, empty, one element written out, or any slice that reads. -/
import Derived.Test.YtekkjieoikgpmaaBase2
set_option linter.unusedVariables false
set_option linter.unusedSimpArgs false
namespace Go.Proofs.Ytekkjieoikgpmaa
open Go.RowKit
namespace Kind
section
variable {α : Type} {d : Kind α} {w w' : World} {ok ok' : Nat → Prop} {e : TypeId} {base : Nat} {v : Value} {l l1 l2 : List α} {cs news : List Value} {x : α}
/-- The cells of a slice that reads, all in line. -/
theorem Rd.reps {A : Option Addr} {n : Nat} (h : d.Rd w ok A n l) : ∃ news, d.Reps w ok l news ∧ ∀ ad, A = some ad → 0 < n → ∀ j u, news[j]? = some u → w.cell? (ad.add j) = some u := by
  rcases Nat.eq_zero_or_pos n with h0 | h0
  · have : l = [] := List.eq_nil_of_length_eq_zero (h.1.trans h0)
    subst this
    exact ⟨[], Reps.nil _ _ _, fun ad _ hp => by omega⟩
  · obtain ⟨b, off, rfl, hb, hlt, hc⟩ := h.2 h0
    have key : ∀ k, k ≤ l.length → ∃ news, d.Reps w ok (l.take k) news ∧ ∀ j u, news[j]? = some u → w.cell? ⟨b, off + j, none⟩ = some u := by
      intro k
      induction k with
      | zero => exact fun _ => ⟨[], by simpa using Reps.nil _ _ _, fun j u hj => by simp at hj⟩
      | succ k ih =>
        intro hk
        obtain ⟨news, hr, hcell⟩ := ih (by omega)
        have hkl : k < l.length := by omega
        obtain ⟨cs, hK, hcs⟩ := hc k _ (List.getElem?_eq_getElem hkl)
        refine ⟨news ++ cs, ?_, fun j u hj => ?_⟩
        · rw [List.take_succ_eq_append_getElem hkl]
          exact hr.snoc hK
        · have hlen : news.length = k * d.sz := by rw [hr.1, List.length_take, Nat.min_eq_left (by omega)]
          rcases Nat.lt_or_ge j news.length with hj1 | hj1
          · rw [List.getElem?_append_left hj1] at hj
            exact hcell j u hj
          · rw [List.getElem?_append_right hj1] at hj
            have := hcs _ u hj
            rw [← this]
            congr 2
            omega
    obtain ⟨news, hr, hcell⟩ := key l.length (Nat.le_refl _)
    rw [List.take_length] at hr
    refine ⟨news, hr, fun ad had _ j u hj => ?_⟩
    injection had with had
    subst had
    rw [Addr.add_lit]
    exact hcell j u hj
end
end Kind
section
variable {α : Type} {d : Kind α} {w w' : World} {ok ok' : Nat → Prop} {e : TypeId} {base : Nat} {v : Value} {l l1 l2 : List α} {cs news : List Value} {x : α} {P : Program}
theorem run_append_of_nil (w : World) (base : Nat) (t ty e : TypeId) (i : TypeInfo) (size : Nat) (ht : P.underlying t = some (.slice e)) (hi : P.info? e = some i)
    (v : Value) (n : Nat) (xs : List Value) (hown : w.ownsRow base e size v n xs) (c : Nat) : (Builtin.append_ #[t, t] ty #[v, .slice none 0 c]).run P w = .ok v w := by
  rcases hown.2 with ⟨rfl, rfl⟩ | ⟨g, cap, cur, rfl, _, _, hnc, _⟩
  · simp [Builtin.append_, run_underlying ht, sizeOf, typeInfo, hi, Builtin.lenOf, Builtin.firstCells]
  · simp [Builtin.append_, run_underlying ht, sizeOf, typeInfo, hi, Builtin.lenOf, Builtin.firstCells, hnc, storeCells]

theorem run_append_kind (w : World) (d : Kind α) (t ty e : TypeId) (z : Value) (bytes : Nat) (ht : P.underlying t = some (.slice e)) (hinfo : (P.info? e).map (fun i => (i.zero, i.size, i.bytes)) = some (some z, d.sz, bytes))
    (hzs : z.cells.size = d.sz) (hs0 : 0 < d.sz) (hb0 : 0 < bytes) (v : Value) (l1 : List α) (hown : d.Own e w ok base v l1) (A : Option Addr) (m c : Nat) (l2 : List α) (news : List Value)
    (hR : d.Reps w ok l2 news) (hm : l2.length = m) (hA : A = none → m = 0) (hc : ∀ ad, A = some ad → 0 < m → ∀ j u, news[j]? = some u → w.cell? (ad.add j) = some u) (hok : ∀ k, ok k → v.ownBlock ≠ some k)
    (hbytes : (l1.length + m) * bytes ≤ 140737488355328) (hbase : base ≤ w.heap.size) :
    ∃ v' w', (Builtin.append_ #[t, t] ty #[v, .slice A m c]).run P w = .ok v' w' ∧ d.Own e w' ok base v' (l1 ++ l2) ∧ w.grownBy w' v.ownBlock ∧ (v'.ownBlock = v.ownBlock ∨ v'.ownBlock = some w.heap.size) ∧ (v' = .slice none 0 0 ↔ v = .slice none 0 0 ∧ m = 0) := by
  obtain ⟨i0, hi, hzz⟩ := Option.map_eq_some_iff.1 hinfo
  simp only [Prod.mk.injEq] at hzz
  obtain ⟨hz0, hz1, hz2⟩ := hzz
  obtain ⟨xs, hx, hr⟩ := hown
  have hlen : l1.length + m ≤ 140737488355328 := Nat.le_trans (Nat.le_mul_of_pos_right _ hb0) hbytes
  cases A with
  | none =>
    have h0 := hA rfl
    subst h0
    have hl2 : l2 = [] := List.eq_nil_of_length_eq_zero hm
    subst hl2
    exact ⟨v, w, run_append_of_nil w base t ty e i0 d.sz ht hi v _ xs hx c, ⟨xs, by simpa using hx, by simpa using hr⟩, World.grownBy.refl w _, .inl rfl, by simp⟩
  | some ad =>
    have hcells : ∀ j u, news[j]? = some u → w.cell? (ad.add j) = some u := by
      intro j u hu
      rcases Nat.eq_zero_or_pos m with h0 | h0
      · have hn : news = [] := List.eq_nil_of_length_eq_zero (by rw [hR.1, hm, h0, Nat.zero_mul])
        rw [hn] at hu
        simp at hu
      · exact hc ad rfl h0 j u hu
    obtain ⟨v', w', hrun, h2, h3, h4, h5⟩ := run_append_own_at (P := P) w base t ty e i0 z d.sz bytes ht hi hz0 hz1 hz2 hzs hs0 v l1.length xs hx ad m c news (by rw [hR.1, hm]) hcells hR.one (by unfold maxLen; omega) hbytes hbase
    refine ⟨v', w', hrun, ⟨xs ++ news, by rw [List.length_append, hm]; exact h2, ?_⟩, h3, h5, h4⟩
    exact (hr.append hR).imp fun x c hk => d.step hk fun k hk hlt => h3.block k hlt (fun e => hok k hk e.symm)

theorem wp_append_kind {o : Oper} {a : Act} {K : Act → World → Prop} {Q : Exit → Act → World → Prop} (w : World) (d : Kind α) (s x : Operand) (t : TypeId) (ho : o.op = .call { callee := .builtin .append, args := #[s, x], argTypes := #[t, t] })
    (e : TypeId) (z : Value) (bytes : Nat) (ht : P.underlying t = some (.slice e)) (hinfo : (P.info? e).map (fun i => (i.zero, i.size, i.bytes)) = some (some z, d.sz, bytes))
    (hzs : z.cells.size = d.sz) (hs0 : 0 < d.sz) (hb0 : 0 < bytes) (v : Value) (l1 : List α) (hs : a.eval s = v) (hown : d.Own e w ok base v l1) (A : Option Addr) (m c : Nat) (l2 : List α) (news : List Value) (hx : a.eval x = .slice A m c)
    (hR : d.Reps w ok l2 news) (hm : l2.length = m) (hA : A = none → m = 0) (hc : ∀ ad, A = some ad → 0 < m → ∀ j u, news[j]? = some u → w.cell? (ad.add j) = some u) (hok : ∀ k, ok k → v.ownBlock ≠ some k)
    (hbytes : (l1.length + m) * bytes ≤ 140737488355328) (hbase : base ≤ w.heap.size)
    (h : ∀ v' w', d.Own e w' ok base v' (l1 ++ l2) → w.grownBy w' v.ownBlock → (v'.ownBlock = v.ownBlock ∨ v'.ownBlock = some w.heap.size) → K (a.put o.dst v') w') : o.wp P a w K Q := by
  obtain ⟨v', w', hr, h2, h3, h4, _⟩ := run_append_kind (P := P) w d t o.type e z bytes ht hinfo hzs hs0 hb0 v l1 hown A m c l2 news hR hm hA hc hok hbytes hbase
  unfold Oper.wp execOp
  simp only [ho, resolve, invoke, builtin, Sem.run_bind, Sem.run_pure, Result.andThen_ok, List.map_toArray, List.map_cons, List.map_nil, hs, hx, hr]
  exact h v' w' h2 h3 h4
/-- append of any slice that reads. -/
theorem wpList_append_rd {ops : Array Oper} {rest : List Oper} {o : Oper} {a : Act} {Q : Exit → Act → World → Prop} (w : World) (d : Kind α) (hgd : o.guard = none) (s x : Operand) (t : TypeId) (ho : o.op = .call { callee := .builtin .append, args := #[s, x], argTypes := #[t, t] })
    (e : TypeId) (z : Value) (bytes : Nat) (ht : P.underlying t = some (.slice e)) (hinfo : (P.info? e).map (fun i => (i.zero, i.size, i.bytes)) = some (some z, d.sz, bytes))
    (hzs : z.cells.size = d.sz) (hs0 : 0 < d.sz) (hb0 : 0 < bytes) (v : Value) (l1 : List α) (hs : a.eval s = v) (hown : d.Own e w ok base v l1) (A : Option Addr) (m c : Nat) (l2 : List α) (hx : a.eval x = .slice A m c)
    (hR : d.Rd w ok A m l2) (hok : ∀ k, ok k → v.ownBlock ≠ some k) (hbytes : (l1.length + m) * bytes ≤ 140737488355328) (hbase : base ≤ w.heap.size)
    (h : ∀ v' w', d.Own e w' ok base v' (l1 ++ l2) → w.grownBy w' v.ownBlock → (v'.ownBlock = v.ownBlock ∨ v'.ownBlock = some w.heap.size) → wpList P ops Q rest (a.put o.dst v') w') : wpList P ops Q (o :: rest) a w := by
  obtain ⟨news, hr, hc⟩ := hR.reps
  refine wpList_plain hgd fun _ hK => wp_append_kind w d s x t ho e z bytes ht hinfo hzs hs0 hb0 v l1 hs hown A m c l2 news hx hr hR.1 ?_ hc hok hbytes hbase fun v' w' h2 h3 h4 => hK _ _ (h v' w' h2 h3 h4)
  intro hA
  rcases Nat.eq_zero_or_pos m with h0 | h0
  · exact h0
  · obtain ⟨b, off, e1, _⟩ := hR.2 h0
    rw [hA] at e1
    cases e1
/-- append of one element that has just been laid in a block of its own. -/
theorem wpList_append_one {ops : Array Oper} {rest : List Oper} {o : Oper} {a : Act} {Q : Exit → Act → World → Prop} (w : World) (d : Kind α) (hgd : o.guard = none) (s x : Operand) (t : TypeId) (ho : o.op = .call { callee := .builtin .append, args := #[s, x], argTypes := #[t, t] })
    (e : TypeId) (z : Value) (bytes : Nat) (ht : P.underlying t = some (.slice e)) (hinfo : (P.info? e).map (fun i => (i.zero, i.size, i.bytes)) = some (some z, d.sz, bytes))
    (hzs : z.cells.size = d.sz) (hs0 : 0 < d.sz) (hb0 : 0 < bytes) (v : Value) (l1 : List α) (hs : a.eval s = v) (hown : d.Own e w ok base v l1) (y : α) (cs : List Value) (hx : a.eval x = .slice (some ⟨w.heap.size, 0, none⟩) 1 1)
    (hK : d.K w ok y cs) (hok : ∀ k, ok k → v.ownBlock ≠ some k) (hbytes : (l1.length + 1) * bytes ≤ 140737488355328) (hbase : base ≤ w.heap.size)
    (h : ∀ v' w', d.Own e w' ok base v' (l1 ++ [y]) → w.grownBy w' v.ownBlock → (v'.ownBlock = v.ownBlock ∨ ∃ b, v'.ownBlock = some b ∧ w.heap.size < b) → wpList P ops Q rest (a.put o.dst v') w') : wpList P ops Q (o :: rest) a (w.alloc (.cells cs.toArray e)) := by
  have hown1 : d.Own e (w.alloc (.cells cs.toArray e)) ok base v l1 := by
    have hb : Below w.heap.size w (w.alloc (.cells cs.toArray e)) := (Below.refl _ _).alloc (Nat.le_refl _) _
    exact hown.below hb
  have hK1 : d.K (w.alloc (.cells cs.toArray e)) ok y cs := d.below hK ((Below.refl _ _).alloc (Nat.le_refl _) _)
  refine wpList_plain hgd fun _ hK' => wp_append_kind (w.alloc (.cells cs.toArray e)) d s x t ho e z bytes ht hinfo hzs hs0 hb0 v l1 hs hown1 (some ⟨w.heap.size, 0, none⟩) 1 1 [y] cs hx (by simpa using (Kind.Reps.nil d _ ok).snoc hK1) rfl (fun h => by cases h) ?_ hok hbytes (by simp; omega) fun v' w' h2 h3 h4 => hK' _ _ (h v' w' h2 ?_ ?_)
  · intro ad had _ j u hu
    injection had with had
    subst had
    rw [Addr.add_lit, blk_cell (blk_new w _)]
    simpa using hu
  · exact (World.grownBy_alloc w _ _).trans h3
  · rcases h4 with h4 | h4
    · exact .inl h4
    · exact .inr ⟨_, h4, by simp⟩
end
end Go.Proofs.Ytekkjieoikgpmaa
