/- Stops made of numbers. -/
import Derived.Test.YtekkjieoikgpmaaE31
import Derived.Deep.RegionLaw
import Derived.RegionTactic
set_option linter.unusedVariables false
set_option linter.unusedSimpArgs false
namespace Go.Proofs.Ytekkjieoikgpmaa
open Go.RowKit
set_option maxHeartbeats 3200000
set_option maxRecDepth 1000000

/-- append as one step of a region that draws its order. -/
theorem step_append0 {P : Program} {ops : Array Oper} {o : Oper} {a : Act} {w w' : World} {K : Act → World → Prop} {Q : Exit → Act → World → Prop} {E : Prop}
    (hg : o.guard = none) (s x : Operand) (t : TypeId) (hop : o.op = Op.call { callee := Callee.builtin Builtin.append, args := #[s, x], argTypes := #[t, t] })
    (sv xv v' : Value) (hs : a.eval s = sv) (hx : a.eval x = xv) (hrun : (Builtin.append_ #[t, t] o.type #[sv, xv]).run P w = .ok v' w')
    (hK : K (a.put o.dst v') w') : if Region.wanted o (yielded ops a.tmps) = true then Oper.wp P o a w K Q else E := by
  have hw : Region.wanted o (yielded ops a.tmps) = true := by simp [Region.wanted, hg]
  rw [if_pos hw]
  unfold Oper.wp
  simp only [execOp, hop, resolve, invoke, builtin, Sem.run_bind, Sem.run_pure, Result.andThen_ok, List.map_toArray, List.map_cons, List.map_nil, hs, hx, hrun]
  exact hK
/-- One element is put on. -/
theorem push_kind {α : Type} {P : Program} {w : World} {ok : Nat → Prop} {base : Nat} (d : Kind α) (t ty e : TypeId) (z : Value) (bytes : Nat) (ht : P.underlying t = some (.slice e)) (hinfo : (P.info? e).map (fun i => (i.zero, i.size, i.bytes)) = some (some z, d.sz, bytes))
    (hzs : z.cells.size = d.sz) (hs0 : 0 < d.sz) (hb0 : 0 < bytes) {v : Value} {l1 : List α} (hown : d.Own e w ok base v l1) {y : α} {cs : List Value} (hK : d.K w ok y cs) (hok : ∀ k, ok k → v.ownBlock ≠ some k) (hbytes : (l1.length + 1) * bytes ≤ 140737488355328) (hbase : base ≤ w.heap.size) :
    ∃ v' w', (Builtin.append_ #[t, t] ty #[v, .slice (some ⟨w.heap.size, 0, none⟩) 1 1]).run P (w.alloc (.cells cs.toArray e)) = .ok v' w' ∧ d.Own e w' ok base v' (l1 ++ [y]) ∧ w.grownBy w' v.ownBlock ∧ (v'.ownBlock = v.ownBlock ∨ ∃ b, v'.ownBlock = some b ∧ w.heap.size < b) := by
  have hb : Below w.heap.size w (w.alloc (.cells cs.toArray e)) := (Below.refl _ _).alloc (Nat.le_refl _) _
  have hown1 : d.Own e (w.alloc (.cells cs.toArray e)) ok base v l1 := hown.below hb
  have hK1 : d.K (w.alloc (.cells cs.toArray e)) ok y cs := d.below hK hb
  have hR : d.Reps (w.alloc (.cells cs.toArray e)) ok [y] cs := by simpa using (Kind.Reps.nil d _ ok).snoc hK1
  obtain ⟨v', w', h1, h2, h3, h4, -⟩ := run_append_kind (P := P) (w.alloc (.cells cs.toArray e)) d t ty e z bytes ht hinfo hzs hs0 hb0 v l1 hown1 (some ⟨w.heap.size, 0, none⟩) 1 1 [y] cs hR rfl (fun h => by cases h) (fun ad had _ j u hu => by
    injection had with had
    subst had
    rw [Addr.add_lit, blk_cell (blk_new w _)]
    simpa using hu) hok hbytes (by simp; omega)
  refine ⟨v', w', h1, h2, (World.grownBy_alloc w _ _).trans h3, ?_⟩
  rcases h4 with h4 | h4
  · exact .inl h4
  · exact .inr ⟨_, h4, by simp⟩

/-- How stops are made. -/
structure M12 where
  stops : List StopT
  every : Int
  at_ : Int
def kindB (r : Int) : UInt8 := if r = 0 then 76 else if r = 1 then 82 else 67
def step12 (i : Nat) (s : M12) (x : Int) : M12 :=
  if i = 0 ∧ ((IntKind.u64.wrap x).tmod 100000).tmod 3 = 0 then { s with every := 1 + ((IntKind.u64.wrap x).tmod 100000).tmod 300 }
  else ⟨s.stops ++ [⟨s.at_ + (1 + ((IntKind.u64.wrap x).tmod 100000).tmod 150), kindB ((((IntKind.u64.wrap x).tmod 100000).tdiv 150).tmod 3)⟩], s.every, s.at_ + (1 + ((IntKind.u64.wrap x).tmod 100000).tmod 150)⟩
def run12 (L : List Int) : Nat → M12
  | 0 => ⟨[], 0, 0⟩
  | i + 1 => match L[i]? with
    | none => run12 L i
    | some x => step12 i (run12 L i) x
theorem run12_next {L : List Int} {i : Nat} {x : Int} (h : L[i]? = some x) : run12 L (i + 1) = step12 i (run12 L i) x := by
  show (match L[i]? with | none => run12 L i | some x => step12 i (run12 L i) x) = _
  rw [h]
theorem rd_int2 {w : World} {ok : Nat → Prop} {A : Option Addr} {n i : Nat} {l : List Int} {x : Int} (h : Kind.int.Rd w ok A n l) (hx : l[i]? = some x) :
    ∃ b off, A = some ⟨b, off, none⟩ ∧ w.cell? ⟨b, off + i, none⟩ = some (.int .i64 x) := by
  obtain ⟨hi, rfl⟩ := List.getElem?_eq_some_iff.1 hx
  obtain ⟨b, off, cs, e, _, hK, hc⟩ := h.at_ hi
  subst hK
  have h0 := hc 0 _ rfl
  rw [show off + i * Kind.int.sz + 0 = off + i from by show off + i * 1 + 0 = off + i; omega] at h0
  exact ⟨b, off, e, h0⟩
theorem size_stops : (Try.prog.info? 24).map (·.size) = some 2 := by kernel_rfl
theorem stops_one (A : Option Addr) (m c : Nat) (e : Int) : (#[Value.slice A m c, .int .i64 e] : Array Value).all (·.oneCell') = true := all_oneCell_toArray (cs := [Value.slice A m c, .int .i64 e]) (by simp only [List.forall_mem_cons]; exact ⟨rfl, rfl, fun _ h => by cases h⟩)
theorem Made12_any (A : Option Addr) (n c : Nat) (L : List Int) (ok : Nat → Prop) (w : World) (hr : Kind.int.Rd w ok A n L) (hn : n ≤ 9) :
    Calls Try.prog 54 #[.slice A n c] w fun e w' => ∃ u, e = .returned (.agg #[u, .int .i64 (run12 L n).every]) ∧ stopK.Sl w' (fun k => w.heap.size ≤ k) u (run12 L n).stops ∧ Below w.heap.size w w' := by
  have HR := hide hr
  have hln : L.length = n := hr.1
  have HLN := hide hln
  clear hr hln
  go_enter Try.func54, Try.ntmps54
  go_upto_region 2 with fail
  refine wp_two ?_
  intro W0 hb2 hb3 hbel hsz
  have HB2 := hide hb2
  have HB3 := hide hb3
  have HBEL := hide hbel
  have HSZ := hide hsz
  clear hb2 hb3 hbel hsz
  go_wp2_with fail
  go_loopw [4, 5, 6] (fun t4 t5 _ wr => ∃ (i : Nat) (v : Value), t5 = .int .i64 i ∧ i ≤ n ∧ t4 = .int .i64 (run12 L i).at_ ∧ Hid (0 ≤ (run12 L i).at_ ∧ (run12 L i).at_ ≤ 150 * i ∧ (run12 L i).stops.length ≤ i) ∧ Hid (wr.heap[w.heap.size]? = some (.cells #[.slice none 0 0, .int .i64 0] 24 (0, 0))) ∧ Hid (wr.heap[w.heap.size + 1]? = some (.cells #[v, .int .i64 (run12 L i).every] 24 (0, 0))) ∧ Hid (stopK.Own 100 wr (fun _ => False) (w.heap.size + 2) v (run12 L i).stops) ∧ Hid (Below w.heap.size w wr)) (fun _ t5 _ _ => n - (intOf t5).toNat)
  case atStart => exact ⟨0, _, rfl, Nat.zero_le _, rfl, hide ⟨Int.le_refl _, Int.le_refl _, Nat.le_refl _⟩, HB2, HB3, hide (Kind.Own.nil _ _ _ _ _), HBEL⟩
  case round =>
    obtain ⟨i, v, rfl, hi, rfl, HN, HA, HB, HO, HBE⟩ := hrel
    by_cases hlt : i < n
    · obtain ⟨x, hx⟩ : ∃ x, L[i]? = some x := ⟨_, List.getElem?_eq_getElem (by have := HLN.out; omega)⟩
      have hstep := run12_next hx
      obtain ⟨b1, o1, rfl, p0⟩ := rd_int2 (HR.out.below HBE.out) hx
      obtain ⟨q, hq, hq2⟩ := umod x 100000 (by omega)
      unfold step12 at hstep
      rw [hq] at hstep
      obtain ⟨s, hs⟩ : ∃ s, s = run12 L i := ⟨_, rfl⟩
      rw [← hs] at hstep HN HB HO ⊢
      have HS := hide hs
      obtain ⟨stp, evy, at0⟩ := s
      have hat := HN.out
      obtain ⟨ha0, ha1, ha2⟩ : 0 ≤ at0 ∧ at0 ≤ 150 * i ∧ stp.length ≤ i := hat
      clear hx hs
      obtain ⟨r, hr3, hr4⟩ : ∃ r : Nat, (q : Int).tmod 300 = (r : Int) ∧ r < 300 := ⟨q % 300, by rw [Int.tmod_eq_emod_of_nonneg (by omega)]; omega, by omega⟩
      obtain ⟨p, hp, hp2⟩ : ∃ p : Nat, (q : Int).tmod 150 = (p : Int) ∧ p < 150 := ⟨q % 150, by rw [Int.tmod_eq_emod_of_nonneg (by omega)]; omega, by omega⟩
      obtain ⟨m, hm, hm2⟩ : ∃ m : Nat, (q : Int).tdiv 150 = (m : Int) ∧ m < 1000 := ⟨q / 150, by rw [Int.tdiv_eq_ediv_of_nonneg (by omega)]; omega, by omega⟩
      rw [hr3, hp, hm] at hstep
      have HSTEP := hide hstep
      clear hstep
      have hi10 : (i : Int) < 10 := by omega
      have hlt2 : (i : Int) < (n : Int) := by omega
      by_cases hc : i = 0 ∧ (q : Int).tmod 3 = 0
      · obtain ⟨rfl, hc3⟩ := hc
        rw [Nat.add_zero] at p0
        have z1 : wr.cell? ⟨w.heap.size + 1, 1, none⟩ = some (.int .i64 evy) := by rw [blk_cell HB.out]; rfl
        have zf : wr.frozen? ⟨w.heap.size + 1, 1, none⟩ = false := blk_frozen HB.out
        have hb5 := blk_set HB.out 1 (.int .i64 (1 + (r : Int)))
        have hk5 : Kept (fun k => k = w.heap.size + 1) wr (wr.setCell ⟨w.heap.size + 1, 1, none⟩ (.int .i64 (1 + (r : Int)))) := (Kept.refl (fun k => k = w.heap.size + 1) wr).setCell (p := ⟨w.heap.size + 1, 1, none⟩) (.inl rfl) _
        have HB5 := hide hb5
        have HK5 := hide hk5
        clear hb5 hk5
        go_wp2_with fail
        go_roundw
        case rel =>
          have hst := HSTEP.out
          rw [if_pos ⟨rfl, hc3⟩] at hst
          exact ⟨0 + 1, v, by go_num, by omega, by rw [hst], hide (by rw [hst]; exact ⟨ha0, by show at0 ≤ _; omega, by show stp.length ≤ 1; omega⟩), hide (blk_kept HA.out HK5.out (by omega)), hide (by rw [hst]; exact HB5.out), hide (by rw [hst]; exact HO.out.step (fun k hk => HK5.out.block k (HO.out.lt k hk).2 (by have := (HO.out.lt k hk).1; omega)) (fun k hk => hk.elim)), hide (HBE.out.trans (HK5.out.below HBE.out.size (fun i h => by omega)))⟩
        case measure => simp [intOf]; omega
      · have HC := hide hc
        obtain ⟨A0, c0, rfl, -, -, -, -, -⟩ := HO.out.form
        clear hc
        have h3 : (m : Int).tmod 3 = 0 ∨ (m : Int).tmod 3 = 1 ∨ (m : Int).tmod 3 = 2 := by rw [Int.tmod_eq_emod_of_nonneg (by omega)]; omega
        by_cases hi0 : i = 0
        · subst hi0
          rw [Nat.add_zero] at p0
          have hc3 : (q : Int).tmod 3 = 1 ∨ (q : Int).tmod 3 = 2 := by
            have h1 : ¬ (q : Int).tmod 3 = 0 := fun e => HC.out ⟨rfl, e⟩
            rw [Int.tmod_eq_emod_of_nonneg (by omega)] at h1 ⊢
            omega
          rcases hc3 with hc3 | hc3
          · rcases h3 with h3 | h3 | h3
            · go_upto_region 10 with fail
              have hwm : IntKind.i64.wrap (m : Int) = (m : Int) := by rw [IntKind.wrap_i64]; omega
              obtain ⟨v6, w6, hrun, ho6, hgr6, hv6⟩ := push_kind (P := Try.prog) (w := wr.drew) stopK 22 22 100 _ 16 Try.underlying22 info_stop rfl (by decide) (by decide) (HO.out.below (Below.refl wr.heap.size wr).drew) (y := ⟨at0 + (1 + (p : Int)), 76⟩) (cs := [.int .i64 (at0 + (1 + (p : Int))), .int .u8 76]) rfl (fun k hk => hk.elim) (by show (stp.length + 1) * 16 ≤ _; omega) (show w.heap.size + 2 ≤ wr.heap.size by have := blk_lt HB.out; omega)
              obtain ⟨A6, c6, rfl, -, -, -, -, -⟩ := ho6.form
              obtain ⟨n6, hn6⟩ : ∃ n6, n6 = (stp ++ [(⟨at0 + (1 + (p : Int)), 76⟩ : StopT)]).length := ⟨_, rfl⟩
              rw [← hn6] at hrun ho6 hv6
              clear hn6
              have hb6 : w6.heap[w.heap.size + 1]? = some (.cells #[.slice A0 stp.length c0, .int .i64 evy] 24 (0, 0)) := (hgr6.block (w.heap.size + 1) (blk_lt HB.out) (fun e => by have := (HO.out.lt _ e.symm).1; omega)).trans HB.out
              have y0 : wr.cell? ⟨w.heap.size + 1, 0, none⟩ = some (.slice A0 stp.length c0) := by rw [blk_cell HB.out]; rfl
              have y2 := fun o : Obj => cell_stays (w' := wr.alloc o) ((Below.refl _ _).alloc (Nat.le_refl _) _) y0
              have z1 : w6.cell? ⟨w.heap.size + 1, 0, none⟩ = some (.slice A0 stp.length c0) := by rw [blk_cell hb6]; rfl
              have z2 : w6.frozen? ⟨w.heap.size + 1, 0, none⟩ = false := blk_frozen hb6
              have hg6 : Below w.heap.size w w6 := HBE.out.grown (⟨hgr6.os, hgr6.tape, hgr6.output, hgr6.size, hgr6.block⟩ : wr.grownBy w6 _) HBE.out.size (fun k hk => by have := (HO.out.lt k hk).1; omega)
              have HB6 := hide hb6
              have HO6 := hide ho6
              have HG6 := hide hg6
              have HGR := hide hgr6
              clear hb6 ho6 hg6 hgr6 hv6
              go_region_law (refine step_append0 rfl _ _ 22 rfl (.slice A0 stp.length c0) _ (.slice A6 n6 c6) rfl rfl hrun ?_)
              all_goals
                have hb7 := blk_set HB6.out 0 (.slice A6 n6 c6)
                have hk7 : Kept (fun k => k = w.heap.size + 1) w6 (w6.setCell ⟨w.heap.size + 1, 0, none⟩ (.slice A6 n6 c6)) := (Kept.refl (fun k => k = w.heap.size + 1) w6).setCell (p := ⟨w.heap.size + 1, 0, none⟩) (.inl rfl) _
                have ha7 : (w6.setCell ⟨w.heap.size + 1, 0, none⟩ (.slice A6 n6 c6)).heap[w.heap.size]? = some (.cells #[.slice none 0 0, .int .i64 0] 24 (0, 0)) := blk_kept (blk_grown HA.out (⟨HGR.out.os, HGR.out.tape, HGR.out.output, HGR.out.size, HGR.out.block⟩ : wr.grownBy w6 _) (fun e => by have := (HO.out.lt _ e.symm).1; omega)) hk7 (by omega)
                have ho7 := HO6.out.step (w' := w6.setCell ⟨w.heap.size + 1, 0, none⟩ (.slice A6 n6 c6)) (fun k hk => hk7.block k (HO6.out.lt k hk).2 (by have := (HO6.out.lt k hk).1; omega)) (fun k hk => hk.elim)
                have hg7 : Below w.heap.size w (w6.setCell ⟨w.heap.size + 1, 0, none⟩ (.slice A6 n6 c6)) := HG6.out.trans (hk7.below HG6.out.size (fun i h => by omega))
                have HB7 := hide hb7
                have HA7 := hide ha7
                have HO7 := hide ho7
                have HG7 := hide hg7
                clear hb7 hk7 ha7 ho7 hg7 hwm z1 z2 y0 y2 hrun
                generalize (w6.setCell ⟨w.heap.size + 1, 0, none⟩ (.slice A6 n6 c6)) = w7 at HB7 HA7 HO7 HG7 ⊢
                have hst := HSTEP.out
                rw [if_neg HC.out, h3, show kindB 0 = 76 from rfl] at hst
                have HST := hide hst
                clear hst
              all_goals go_wp2_with fail
              all_goals go_roundw
              all_goals first
                | exact ⟨0 + 1, .slice A6 n6 c6, by go_num, by omega, by rw [HST.out], hide (by rw [HST.out]; exact ⟨by show 0 ≤ at0 + (1 + (p : Int)); omega, by show at0 + (1 + (p : Int)) ≤ _; omega, by show (stp ++ [_]).length ≤ _; rw [List.length_append, List.length_singleton]; omega⟩), HA7, hide (by rw [HST.out]; exact HB7.out), hide (by rw [HST.out]; exact HO7.out), HG7⟩
                | (simp [intOf]; omega)
            · go_upto_region 10 with fail
              have hwm : IntKind.i64.wrap (m : Int) = (m : Int) := by rw [IntKind.wrap_i64]; omega
              obtain ⟨v6, w6, hrun, ho6, hgr6, hv6⟩ := push_kind (P := Try.prog) (w := wr.drew) stopK 22 22 100 _ 16 Try.underlying22 info_stop rfl (by decide) (by decide) (HO.out.below (Below.refl wr.heap.size wr).drew) (y := ⟨at0 + (1 + (p : Int)), 82⟩) (cs := [.int .i64 (at0 + (1 + (p : Int))), .int .u8 82]) rfl (fun k hk => hk.elim) (by show (stp.length + 1) * 16 ≤ _; omega) (show w.heap.size + 2 ≤ wr.heap.size by have := blk_lt HB.out; omega)
              obtain ⟨A6, c6, rfl, -, -, -, -, -⟩ := ho6.form
              obtain ⟨n6, hn6⟩ : ∃ n6, n6 = (stp ++ [(⟨at0 + (1 + (p : Int)), 82⟩ : StopT)]).length := ⟨_, rfl⟩
              rw [← hn6] at hrun ho6 hv6
              clear hn6
              have hb6 : w6.heap[w.heap.size + 1]? = some (.cells #[.slice A0 stp.length c0, .int .i64 evy] 24 (0, 0)) := (hgr6.block (w.heap.size + 1) (blk_lt HB.out) (fun e => by have := (HO.out.lt _ e.symm).1; omega)).trans HB.out
              have y0 : wr.cell? ⟨w.heap.size + 1, 0, none⟩ = some (.slice A0 stp.length c0) := by rw [blk_cell HB.out]; rfl
              have y2 := fun o : Obj => cell_stays (w' := wr.alloc o) ((Below.refl _ _).alloc (Nat.le_refl _) _) y0
              have z1 : w6.cell? ⟨w.heap.size + 1, 0, none⟩ = some (.slice A0 stp.length c0) := by rw [blk_cell hb6]; rfl
              have z2 : w6.frozen? ⟨w.heap.size + 1, 0, none⟩ = false := blk_frozen hb6
              have hg6 : Below w.heap.size w w6 := HBE.out.grown (⟨hgr6.os, hgr6.tape, hgr6.output, hgr6.size, hgr6.block⟩ : wr.grownBy w6 _) HBE.out.size (fun k hk => by have := (HO.out.lt k hk).1; omega)
              have HB6 := hide hb6
              have HO6 := hide ho6
              have HG6 := hide hg6
              have HGR := hide hgr6
              clear hb6 ho6 hg6 hgr6 hv6
              go_region_law (refine step_append0 rfl _ _ 22 rfl (.slice A0 stp.length c0) _ (.slice A6 n6 c6) rfl rfl hrun ?_)
              all_goals
                have hb7 := blk_set HB6.out 0 (.slice A6 n6 c6)
                have hk7 : Kept (fun k => k = w.heap.size + 1) w6 (w6.setCell ⟨w.heap.size + 1, 0, none⟩ (.slice A6 n6 c6)) := (Kept.refl (fun k => k = w.heap.size + 1) w6).setCell (p := ⟨w.heap.size + 1, 0, none⟩) (.inl rfl) _
                have ha7 : (w6.setCell ⟨w.heap.size + 1, 0, none⟩ (.slice A6 n6 c6)).heap[w.heap.size]? = some (.cells #[.slice none 0 0, .int .i64 0] 24 (0, 0)) := blk_kept (blk_grown HA.out (⟨HGR.out.os, HGR.out.tape, HGR.out.output, HGR.out.size, HGR.out.block⟩ : wr.grownBy w6 _) (fun e => by have := (HO.out.lt _ e.symm).1; omega)) hk7 (by omega)
                have ho7 := HO6.out.step (w' := w6.setCell ⟨w.heap.size + 1, 0, none⟩ (.slice A6 n6 c6)) (fun k hk => hk7.block k (HO6.out.lt k hk).2 (by have := (HO6.out.lt k hk).1; omega)) (fun k hk => hk.elim)
                have hg7 : Below w.heap.size w (w6.setCell ⟨w.heap.size + 1, 0, none⟩ (.slice A6 n6 c6)) := HG6.out.trans (hk7.below HG6.out.size (fun i h => by omega))
                have HB7 := hide hb7
                have HA7 := hide ha7
                have HO7 := hide ho7
                have HG7 := hide hg7
                clear hb7 hk7 ha7 ho7 hg7 hwm z1 z2 y0 y2 hrun
                generalize (w6.setCell ⟨w.heap.size + 1, 0, none⟩ (.slice A6 n6 c6)) = w7 at HB7 HA7 HO7 HG7 ⊢
                have hst := HSTEP.out
                rw [if_neg HC.out, h3, show kindB 1 = 82 from rfl] at hst
                have HST := hide hst
                clear hst
              all_goals go_wp2_with fail
              all_goals go_roundw
              all_goals first
                | exact ⟨0 + 1, .slice A6 n6 c6, by go_num, by omega, by rw [HST.out], hide (by rw [HST.out]; exact ⟨by show 0 ≤ at0 + (1 + (p : Int)); omega, by show at0 + (1 + (p : Int)) ≤ _; omega, by show (stp ++ [_]).length ≤ _; rw [List.length_append, List.length_singleton]; omega⟩), HA7, hide (by rw [HST.out]; exact HB7.out), hide (by rw [HST.out]; exact HO7.out), HG7⟩
                | (simp [intOf]; omega)
            · go_upto_region 10 with fail
              have hwm : IntKind.i64.wrap (m : Int) = (m : Int) := by rw [IntKind.wrap_i64]; omega
              obtain ⟨v6, w6, hrun, ho6, hgr6, hv6⟩ := push_kind (P := Try.prog) (w := wr.drew) stopK 22 22 100 _ 16 Try.underlying22 info_stop rfl (by decide) (by decide) (HO.out.below (Below.refl wr.heap.size wr).drew) (y := ⟨at0 + (1 + (p : Int)), 67⟩) (cs := [.int .i64 (at0 + (1 + (p : Int))), .int .u8 67]) rfl (fun k hk => hk.elim) (by show (stp.length + 1) * 16 ≤ _; omega) (show w.heap.size + 2 ≤ wr.heap.size by have := blk_lt HB.out; omega)
              obtain ⟨A6, c6, rfl, -, -, -, -, -⟩ := ho6.form
              obtain ⟨n6, hn6⟩ : ∃ n6, n6 = (stp ++ [(⟨at0 + (1 + (p : Int)), 67⟩ : StopT)]).length := ⟨_, rfl⟩
              rw [← hn6] at hrun ho6 hv6
              clear hn6
              have hb6 : w6.heap[w.heap.size + 1]? = some (.cells #[.slice A0 stp.length c0, .int .i64 evy] 24 (0, 0)) := (hgr6.block (w.heap.size + 1) (blk_lt HB.out) (fun e => by have := (HO.out.lt _ e.symm).1; omega)).trans HB.out
              have y0 : wr.cell? ⟨w.heap.size + 1, 0, none⟩ = some (.slice A0 stp.length c0) := by rw [blk_cell HB.out]; rfl
              have y2 := fun o : Obj => cell_stays (w' := wr.alloc o) ((Below.refl _ _).alloc (Nat.le_refl _) _) y0
              have z1 : w6.cell? ⟨w.heap.size + 1, 0, none⟩ = some (.slice A0 stp.length c0) := by rw [blk_cell hb6]; rfl
              have z2 : w6.frozen? ⟨w.heap.size + 1, 0, none⟩ = false := blk_frozen hb6
              have hg6 : Below w.heap.size w w6 := HBE.out.grown (⟨hgr6.os, hgr6.tape, hgr6.output, hgr6.size, hgr6.block⟩ : wr.grownBy w6 _) HBE.out.size (fun k hk => by have := (HO.out.lt k hk).1; omega)
              have HB6 := hide hb6
              have HO6 := hide ho6
              have HG6 := hide hg6
              have HGR := hide hgr6
              clear hb6 ho6 hg6 hgr6 hv6
              go_region_law (refine step_append0 rfl _ _ 22 rfl (.slice A0 stp.length c0) _ (.slice A6 n6 c6) rfl rfl hrun ?_)
              all_goals
                have hb7 := blk_set HB6.out 0 (.slice A6 n6 c6)
                have hk7 : Kept (fun k => k = w.heap.size + 1) w6 (w6.setCell ⟨w.heap.size + 1, 0, none⟩ (.slice A6 n6 c6)) := (Kept.refl (fun k => k = w.heap.size + 1) w6).setCell (p := ⟨w.heap.size + 1, 0, none⟩) (.inl rfl) _
                have ha7 : (w6.setCell ⟨w.heap.size + 1, 0, none⟩ (.slice A6 n6 c6)).heap[w.heap.size]? = some (.cells #[.slice none 0 0, .int .i64 0] 24 (0, 0)) := blk_kept (blk_grown HA.out (⟨HGR.out.os, HGR.out.tape, HGR.out.output, HGR.out.size, HGR.out.block⟩ : wr.grownBy w6 _) (fun e => by have := (HO.out.lt _ e.symm).1; omega)) hk7 (by omega)
                have ho7 := HO6.out.step (w' := w6.setCell ⟨w.heap.size + 1, 0, none⟩ (.slice A6 n6 c6)) (fun k hk => hk7.block k (HO6.out.lt k hk).2 (by have := (HO6.out.lt k hk).1; omega)) (fun k hk => hk.elim)
                have hg7 : Below w.heap.size w (w6.setCell ⟨w.heap.size + 1, 0, none⟩ (.slice A6 n6 c6)) := HG6.out.trans (hk7.below HG6.out.size (fun i h => by omega))
                have HB7 := hide hb7
                have HA7 := hide ha7
                have HO7 := hide ho7
                have HG7 := hide hg7
                clear hb7 hk7 ha7 ho7 hg7 hwm z1 z2 y0 y2 hrun
                generalize (w6.setCell ⟨w.heap.size + 1, 0, none⟩ (.slice A6 n6 c6)) = w7 at HB7 HA7 HO7 HG7 ⊢
                have hst := HSTEP.out
                rw [if_neg HC.out, h3, show kindB 2 = 67 from rfl] at hst
                have HST := hide hst
                clear hst
              all_goals go_wp2_with fail
              all_goals go_roundw
              all_goals first
                | exact ⟨0 + 1, .slice A6 n6 c6, by go_num, by omega, by rw [HST.out], hide (by rw [HST.out]; exact ⟨by show 0 ≤ at0 + (1 + (p : Int)); omega, by show at0 + (1 + (p : Int)) ≤ _; omega, by show (stp ++ [_]).length ≤ _; rw [List.length_append, List.length_singleton]; omega⟩), HA7, hide (by rw [HST.out]; exact HB7.out), hide (by rw [HST.out]; exact HO7.out), HG7⟩
                | (simp [intOf]; omega)
          · rcases h3 with h3 | h3 | h3
            · go_upto_region 10 with fail
              have hwm : IntKind.i64.wrap (m : Int) = (m : Int) := by rw [IntKind.wrap_i64]; omega
              obtain ⟨v6, w6, hrun, ho6, hgr6, hv6⟩ := push_kind (P := Try.prog) (w := wr.drew) stopK 22 22 100 _ 16 Try.underlying22 info_stop rfl (by decide) (by decide) (HO.out.below (Below.refl wr.heap.size wr).drew) (y := ⟨at0 + (1 + (p : Int)), 76⟩) (cs := [.int .i64 (at0 + (1 + (p : Int))), .int .u8 76]) rfl (fun k hk => hk.elim) (by show (stp.length + 1) * 16 ≤ _; omega) (show w.heap.size + 2 ≤ wr.heap.size by have := blk_lt HB.out; omega)
              obtain ⟨A6, c6, rfl, -, -, -, -, -⟩ := ho6.form
              obtain ⟨n6, hn6⟩ : ∃ n6, n6 = (stp ++ [(⟨at0 + (1 + (p : Int)), 76⟩ : StopT)]).length := ⟨_, rfl⟩
              rw [← hn6] at hrun ho6 hv6
              clear hn6
              have hb6 : w6.heap[w.heap.size + 1]? = some (.cells #[.slice A0 stp.length c0, .int .i64 evy] 24 (0, 0)) := (hgr6.block (w.heap.size + 1) (blk_lt HB.out) (fun e => by have := (HO.out.lt _ e.symm).1; omega)).trans HB.out
              have y0 : wr.cell? ⟨w.heap.size + 1, 0, none⟩ = some (.slice A0 stp.length c0) := by rw [blk_cell HB.out]; rfl
              have y2 := fun o : Obj => cell_stays (w' := wr.alloc o) ((Below.refl _ _).alloc (Nat.le_refl _) _) y0
              have z1 : w6.cell? ⟨w.heap.size + 1, 0, none⟩ = some (.slice A0 stp.length c0) := by rw [blk_cell hb6]; rfl
              have z2 : w6.frozen? ⟨w.heap.size + 1, 0, none⟩ = false := blk_frozen hb6
              have hg6 : Below w.heap.size w w6 := HBE.out.grown (⟨hgr6.os, hgr6.tape, hgr6.output, hgr6.size, hgr6.block⟩ : wr.grownBy w6 _) HBE.out.size (fun k hk => by have := (HO.out.lt k hk).1; omega)
              have HB6 := hide hb6
              have HO6 := hide ho6
              have HG6 := hide hg6
              have HGR := hide hgr6
              clear hb6 ho6 hg6 hgr6 hv6
              go_region_law (refine step_append0 rfl _ _ 22 rfl (.slice A0 stp.length c0) _ (.slice A6 n6 c6) rfl rfl hrun ?_)
              all_goals
                have hb7 := blk_set HB6.out 0 (.slice A6 n6 c6)
                have hk7 : Kept (fun k => k = w.heap.size + 1) w6 (w6.setCell ⟨w.heap.size + 1, 0, none⟩ (.slice A6 n6 c6)) := (Kept.refl (fun k => k = w.heap.size + 1) w6).setCell (p := ⟨w.heap.size + 1, 0, none⟩) (.inl rfl) _
                have ha7 : (w6.setCell ⟨w.heap.size + 1, 0, none⟩ (.slice A6 n6 c6)).heap[w.heap.size]? = some (.cells #[.slice none 0 0, .int .i64 0] 24 (0, 0)) := blk_kept (blk_grown HA.out (⟨HGR.out.os, HGR.out.tape, HGR.out.output, HGR.out.size, HGR.out.block⟩ : wr.grownBy w6 _) (fun e => by have := (HO.out.lt _ e.symm).1; omega)) hk7 (by omega)
                have ho7 := HO6.out.step (w' := w6.setCell ⟨w.heap.size + 1, 0, none⟩ (.slice A6 n6 c6)) (fun k hk => hk7.block k (HO6.out.lt k hk).2 (by have := (HO6.out.lt k hk).1; omega)) (fun k hk => hk.elim)
                have hg7 : Below w.heap.size w (w6.setCell ⟨w.heap.size + 1, 0, none⟩ (.slice A6 n6 c6)) := HG6.out.trans (hk7.below HG6.out.size (fun i h => by omega))
                have HB7 := hide hb7
                have HA7 := hide ha7
                have HO7 := hide ho7
                have HG7 := hide hg7
                clear hb7 hk7 ha7 ho7 hg7 hwm z1 z2 y0 y2 hrun
                generalize (w6.setCell ⟨w.heap.size + 1, 0, none⟩ (.slice A6 n6 c6)) = w7 at HB7 HA7 HO7 HG7 ⊢
                have hst := HSTEP.out
                rw [if_neg HC.out, h3, show kindB 0 = 76 from rfl] at hst
                have HST := hide hst
                clear hst
              all_goals go_wp2_with fail
              all_goals go_roundw
              all_goals first
                | exact ⟨0 + 1, .slice A6 n6 c6, by go_num, by omega, by rw [HST.out], hide (by rw [HST.out]; exact ⟨by show 0 ≤ at0 + (1 + (p : Int)); omega, by show at0 + (1 + (p : Int)) ≤ _; omega, by show (stp ++ [_]).length ≤ _; rw [List.length_append, List.length_singleton]; omega⟩), HA7, hide (by rw [HST.out]; exact HB7.out), hide (by rw [HST.out]; exact HO7.out), HG7⟩
                | (simp [intOf]; omega)
            · go_upto_region 10 with fail
              have hwm : IntKind.i64.wrap (m : Int) = (m : Int) := by rw [IntKind.wrap_i64]; omega
              obtain ⟨v6, w6, hrun, ho6, hgr6, hv6⟩ := push_kind (P := Try.prog) (w := wr.drew) stopK 22 22 100 _ 16 Try.underlying22 info_stop rfl (by decide) (by decide) (HO.out.below (Below.refl wr.heap.size wr).drew) (y := ⟨at0 + (1 + (p : Int)), 82⟩) (cs := [.int .i64 (at0 + (1 + (p : Int))), .int .u8 82]) rfl (fun k hk => hk.elim) (by show (stp.length + 1) * 16 ≤ _; omega) (show w.heap.size + 2 ≤ wr.heap.size by have := blk_lt HB.out; omega)
              obtain ⟨A6, c6, rfl, -, -, -, -, -⟩ := ho6.form
              obtain ⟨n6, hn6⟩ : ∃ n6, n6 = (stp ++ [(⟨at0 + (1 + (p : Int)), 82⟩ : StopT)]).length := ⟨_, rfl⟩
              rw [← hn6] at hrun ho6 hv6
              clear hn6
              have hb6 : w6.heap[w.heap.size + 1]? = some (.cells #[.slice A0 stp.length c0, .int .i64 evy] 24 (0, 0)) := (hgr6.block (w.heap.size + 1) (blk_lt HB.out) (fun e => by have := (HO.out.lt _ e.symm).1; omega)).trans HB.out
              have y0 : wr.cell? ⟨w.heap.size + 1, 0, none⟩ = some (.slice A0 stp.length c0) := by rw [blk_cell HB.out]; rfl
              have y2 := fun o : Obj => cell_stays (w' := wr.alloc o) ((Below.refl _ _).alloc (Nat.le_refl _) _) y0
              have z1 : w6.cell? ⟨w.heap.size + 1, 0, none⟩ = some (.slice A0 stp.length c0) := by rw [blk_cell hb6]; rfl
              have z2 : w6.frozen? ⟨w.heap.size + 1, 0, none⟩ = false := blk_frozen hb6
              have hg6 : Below w.heap.size w w6 := HBE.out.grown (⟨hgr6.os, hgr6.tape, hgr6.output, hgr6.size, hgr6.block⟩ : wr.grownBy w6 _) HBE.out.size (fun k hk => by have := (HO.out.lt k hk).1; omega)
              have HB6 := hide hb6
              have HO6 := hide ho6
              have HG6 := hide hg6
              have HGR := hide hgr6
              clear hb6 ho6 hg6 hgr6 hv6
              go_region_law (refine step_append0 rfl _ _ 22 rfl (.slice A0 stp.length c0) _ (.slice A6 n6 c6) rfl rfl hrun ?_)
              all_goals
                have hb7 := blk_set HB6.out 0 (.slice A6 n6 c6)
                have hk7 : Kept (fun k => k = w.heap.size + 1) w6 (w6.setCell ⟨w.heap.size + 1, 0, none⟩ (.slice A6 n6 c6)) := (Kept.refl (fun k => k = w.heap.size + 1) w6).setCell (p := ⟨w.heap.size + 1, 0, none⟩) (.inl rfl) _
                have ha7 : (w6.setCell ⟨w.heap.size + 1, 0, none⟩ (.slice A6 n6 c6)).heap[w.heap.size]? = some (.cells #[.slice none 0 0, .int .i64 0] 24 (0, 0)) := blk_kept (blk_grown HA.out (⟨HGR.out.os, HGR.out.tape, HGR.out.output, HGR.out.size, HGR.out.block⟩ : wr.grownBy w6 _) (fun e => by have := (HO.out.lt _ e.symm).1; omega)) hk7 (by omega)
                have ho7 := HO6.out.step (w' := w6.setCell ⟨w.heap.size + 1, 0, none⟩ (.slice A6 n6 c6)) (fun k hk => hk7.block k (HO6.out.lt k hk).2 (by have := (HO6.out.lt k hk).1; omega)) (fun k hk => hk.elim)
                have hg7 : Below w.heap.size w (w6.setCell ⟨w.heap.size + 1, 0, none⟩ (.slice A6 n6 c6)) := HG6.out.trans (hk7.below HG6.out.size (fun i h => by omega))
                have HB7 := hide hb7
                have HA7 := hide ha7
                have HO7 := hide ho7
                have HG7 := hide hg7
                clear hb7 hk7 ha7 ho7 hg7 hwm z1 z2 y0 y2 hrun
                generalize (w6.setCell ⟨w.heap.size + 1, 0, none⟩ (.slice A6 n6 c6)) = w7 at HB7 HA7 HO7 HG7 ⊢
                have hst := HSTEP.out
                rw [if_neg HC.out, h3, show kindB 1 = 82 from rfl] at hst
                have HST := hide hst
                clear hst
              all_goals go_wp2_with fail
              all_goals go_roundw
              all_goals first
                | exact ⟨0 + 1, .slice A6 n6 c6, by go_num, by omega, by rw [HST.out], hide (by rw [HST.out]; exact ⟨by show 0 ≤ at0 + (1 + (p : Int)); omega, by show at0 + (1 + (p : Int)) ≤ _; omega, by show (stp ++ [_]).length ≤ _; rw [List.length_append, List.length_singleton]; omega⟩), HA7, hide (by rw [HST.out]; exact HB7.out), hide (by rw [HST.out]; exact HO7.out), HG7⟩
                | (simp [intOf]; omega)
            · go_upto_region 10 with fail
              have hwm : IntKind.i64.wrap (m : Int) = (m : Int) := by rw [IntKind.wrap_i64]; omega
              obtain ⟨v6, w6, hrun, ho6, hgr6, hv6⟩ := push_kind (P := Try.prog) (w := wr.drew) stopK 22 22 100 _ 16 Try.underlying22 info_stop rfl (by decide) (by decide) (HO.out.below (Below.refl wr.heap.size wr).drew) (y := ⟨at0 + (1 + (p : Int)), 67⟩) (cs := [.int .i64 (at0 + (1 + (p : Int))), .int .u8 67]) rfl (fun k hk => hk.elim) (by show (stp.length + 1) * 16 ≤ _; omega) (show w.heap.size + 2 ≤ wr.heap.size by have := blk_lt HB.out; omega)
              obtain ⟨A6, c6, rfl, -, -, -, -, -⟩ := ho6.form
              obtain ⟨n6, hn6⟩ : ∃ n6, n6 = (stp ++ [(⟨at0 + (1 + (p : Int)), 67⟩ : StopT)]).length := ⟨_, rfl⟩
              rw [← hn6] at hrun ho6 hv6
              clear hn6
              have hb6 : w6.heap[w.heap.size + 1]? = some (.cells #[.slice A0 stp.length c0, .int .i64 evy] 24 (0, 0)) := (hgr6.block (w.heap.size + 1) (blk_lt HB.out) (fun e => by have := (HO.out.lt _ e.symm).1; omega)).trans HB.out
              have y0 : wr.cell? ⟨w.heap.size + 1, 0, none⟩ = some (.slice A0 stp.length c0) := by rw [blk_cell HB.out]; rfl
              have y2 := fun o : Obj => cell_stays (w' := wr.alloc o) ((Below.refl _ _).alloc (Nat.le_refl _) _) y0
              have z1 : w6.cell? ⟨w.heap.size + 1, 0, none⟩ = some (.slice A0 stp.length c0) := by rw [blk_cell hb6]; rfl
              have z2 : w6.frozen? ⟨w.heap.size + 1, 0, none⟩ = false := blk_frozen hb6
              have hg6 : Below w.heap.size w w6 := HBE.out.grown (⟨hgr6.os, hgr6.tape, hgr6.output, hgr6.size, hgr6.block⟩ : wr.grownBy w6 _) HBE.out.size (fun k hk => by have := (HO.out.lt k hk).1; omega)
              have HB6 := hide hb6
              have HO6 := hide ho6
              have HG6 := hide hg6
              have HGR := hide hgr6
              clear hb6 ho6 hg6 hgr6 hv6
              go_region_law (refine step_append0 rfl _ _ 22 rfl (.slice A0 stp.length c0) _ (.slice A6 n6 c6) rfl rfl hrun ?_)
              all_goals
                have hb7 := blk_set HB6.out 0 (.slice A6 n6 c6)
                have hk7 : Kept (fun k => k = w.heap.size + 1) w6 (w6.setCell ⟨w.heap.size + 1, 0, none⟩ (.slice A6 n6 c6)) := (Kept.refl (fun k => k = w.heap.size + 1) w6).setCell (p := ⟨w.heap.size + 1, 0, none⟩) (.inl rfl) _
                have ha7 : (w6.setCell ⟨w.heap.size + 1, 0, none⟩ (.slice A6 n6 c6)).heap[w.heap.size]? = some (.cells #[.slice none 0 0, .int .i64 0] 24 (0, 0)) := blk_kept (blk_grown HA.out (⟨HGR.out.os, HGR.out.tape, HGR.out.output, HGR.out.size, HGR.out.block⟩ : wr.grownBy w6 _) (fun e => by have := (HO.out.lt _ e.symm).1; omega)) hk7 (by omega)
                have ho7 := HO6.out.step (w' := w6.setCell ⟨w.heap.size + 1, 0, none⟩ (.slice A6 n6 c6)) (fun k hk => hk7.block k (HO6.out.lt k hk).2 (by have := (HO6.out.lt k hk).1; omega)) (fun k hk => hk.elim)
                have hg7 : Below w.heap.size w (w6.setCell ⟨w.heap.size + 1, 0, none⟩ (.slice A6 n6 c6)) := HG6.out.trans (hk7.below HG6.out.size (fun i h => by omega))
                have HB7 := hide hb7
                have HA7 := hide ha7
                have HO7 := hide ho7
                have HG7 := hide hg7
                clear hb7 hk7 ha7 ho7 hg7 hwm z1 z2 y0 y2 hrun
                generalize (w6.setCell ⟨w.heap.size + 1, 0, none⟩ (.slice A6 n6 c6)) = w7 at HB7 HA7 HO7 HG7 ⊢
                have hst := HSTEP.out
                rw [if_neg HC.out, h3, show kindB 2 = 67 from rfl] at hst
                have HST := hide hst
                clear hst
              all_goals go_wp2_with fail
              all_goals go_roundw
              all_goals first
                | exact ⟨0 + 1, .slice A6 n6 c6, by go_num, by omega, by rw [HST.out], hide (by rw [HST.out]; exact ⟨by show 0 ≤ at0 + (1 + (p : Int)); omega, by show at0 + (1 + (p : Int)) ≤ _; omega, by show (stp ++ [_]).length ≤ _; rw [List.length_append, List.length_singleton]; omega⟩), HA7, hide (by rw [HST.out]; exact HB7.out), hide (by rw [HST.out]; exact HO7.out), HG7⟩
                | (simp [intOf]; omega)
        · have hi0b : (i : Int) ≠ 0 := by omega
          rcases h3 with h3 | h3 | h3
          · go_upto_region 10 with fail
            have hwm : IntKind.i64.wrap (m : Int) = (m : Int) := by rw [IntKind.wrap_i64]; omega
            obtain ⟨v6, w6, hrun, ho6, hgr6, hv6⟩ := push_kind (P := Try.prog) (w := wr.drew) stopK 22 22 100 _ 16 Try.underlying22 info_stop rfl (by decide) (by decide) (HO.out.below (Below.refl wr.heap.size wr).drew) (y := ⟨at0 + (1 + (p : Int)), 76⟩) (cs := [.int .i64 (at0 + (1 + (p : Int))), .int .u8 76]) rfl (fun k hk => hk.elim) (by show (stp.length + 1) * 16 ≤ _; omega) (show w.heap.size + 2 ≤ wr.heap.size by have := blk_lt HB.out; omega)
            obtain ⟨A6, c6, rfl, -, -, -, -, -⟩ := ho6.form
            obtain ⟨n6, hn6⟩ : ∃ n6, n6 = (stp ++ [(⟨at0 + (1 + (p : Int)), 76⟩ : StopT)]).length := ⟨_, rfl⟩
            rw [← hn6] at hrun ho6 hv6
            clear hn6
            have hb6 : w6.heap[w.heap.size + 1]? = some (.cells #[.slice A0 stp.length c0, .int .i64 evy] 24 (0, 0)) := (hgr6.block (w.heap.size + 1) (blk_lt HB.out) (fun e => by have := (HO.out.lt _ e.symm).1; omega)).trans HB.out
            have y0 : wr.cell? ⟨w.heap.size + 1, 0, none⟩ = some (.slice A0 stp.length c0) := by rw [blk_cell HB.out]; rfl
            have y2 := fun o : Obj => cell_stays (w' := wr.alloc o) ((Below.refl _ _).alloc (Nat.le_refl _) _) y0
            have z1 : w6.cell? ⟨w.heap.size + 1, 0, none⟩ = some (.slice A0 stp.length c0) := by rw [blk_cell hb6]; rfl
            have z2 : w6.frozen? ⟨w.heap.size + 1, 0, none⟩ = false := blk_frozen hb6
            have hg6 : Below w.heap.size w w6 := HBE.out.grown (⟨hgr6.os, hgr6.tape, hgr6.output, hgr6.size, hgr6.block⟩ : wr.grownBy w6 _) HBE.out.size (fun k hk => by have := (HO.out.lt k hk).1; omega)
            have HB6 := hide hb6
            have HO6 := hide ho6
            have HG6 := hide hg6
            have HGR := hide hgr6
            clear hb6 ho6 hg6 hgr6 hv6
            go_region_law (refine step_append0 rfl _ _ 22 rfl (.slice A0 stp.length c0) _ (.slice A6 n6 c6) rfl rfl hrun ?_)
            all_goals
              have hb7 := blk_set HB6.out 0 (.slice A6 n6 c6)
              have hk7 : Kept (fun k => k = w.heap.size + 1) w6 (w6.setCell ⟨w.heap.size + 1, 0, none⟩ (.slice A6 n6 c6)) := (Kept.refl (fun k => k = w.heap.size + 1) w6).setCell (p := ⟨w.heap.size + 1, 0, none⟩) (.inl rfl) _
              have ha7 : (w6.setCell ⟨w.heap.size + 1, 0, none⟩ (.slice A6 n6 c6)).heap[w.heap.size]? = some (.cells #[.slice none 0 0, .int .i64 0] 24 (0, 0)) := blk_kept (blk_grown HA.out (⟨HGR.out.os, HGR.out.tape, HGR.out.output, HGR.out.size, HGR.out.block⟩ : wr.grownBy w6 _) (fun e => by have := (HO.out.lt _ e.symm).1; omega)) hk7 (by omega)
              have ho7 := HO6.out.step (w' := w6.setCell ⟨w.heap.size + 1, 0, none⟩ (.slice A6 n6 c6)) (fun k hk => hk7.block k (HO6.out.lt k hk).2 (by have := (HO6.out.lt k hk).1; omega)) (fun k hk => hk.elim)
              have hg7 : Below w.heap.size w (w6.setCell ⟨w.heap.size + 1, 0, none⟩ (.slice A6 n6 c6)) := HG6.out.trans (hk7.below HG6.out.size (fun i h => by omega))
              have HB7 := hide hb7
              have HA7 := hide ha7
              have HO7 := hide ho7
              have HG7 := hide hg7
              clear hb7 hk7 ha7 ho7 hg7 hwm z1 z2 y0 y2 hrun
              generalize (w6.setCell ⟨w.heap.size + 1, 0, none⟩ (.slice A6 n6 c6)) = w7 at HB7 HA7 HO7 HG7 ⊢
              have hst := HSTEP.out
              rw [if_neg HC.out, h3, show kindB 0 = 76 from rfl] at hst
              have HST := hide hst
              clear hst
            all_goals go_wp2_with fail
            all_goals go_roundw
            all_goals first
              | exact ⟨i + 1, .slice A6 n6 c6, by go_num, by omega, by rw [HST.out], hide (by rw [HST.out]; exact ⟨by show 0 ≤ at0 + (1 + (p : Int)); omega, by show at0 + (1 + (p : Int)) ≤ _; omega, by show (stp ++ [_]).length ≤ _; rw [List.length_append, List.length_singleton]; omega⟩), HA7, hide (by rw [HST.out]; exact HB7.out), hide (by rw [HST.out]; exact HO7.out), HG7⟩
              | (simp [intOf]; omega)
          · go_upto_region 10 with fail
            have hwm : IntKind.i64.wrap (m : Int) = (m : Int) := by rw [IntKind.wrap_i64]; omega
            obtain ⟨v6, w6, hrun, ho6, hgr6, hv6⟩ := push_kind (P := Try.prog) (w := wr.drew) stopK 22 22 100 _ 16 Try.underlying22 info_stop rfl (by decide) (by decide) (HO.out.below (Below.refl wr.heap.size wr).drew) (y := ⟨at0 + (1 + (p : Int)), 82⟩) (cs := [.int .i64 (at0 + (1 + (p : Int))), .int .u8 82]) rfl (fun k hk => hk.elim) (by show (stp.length + 1) * 16 ≤ _; omega) (show w.heap.size + 2 ≤ wr.heap.size by have := blk_lt HB.out; omega)
            obtain ⟨A6, c6, rfl, -, -, -, -, -⟩ := ho6.form
            obtain ⟨n6, hn6⟩ : ∃ n6, n6 = (stp ++ [(⟨at0 + (1 + (p : Int)), 82⟩ : StopT)]).length := ⟨_, rfl⟩
            rw [← hn6] at hrun ho6 hv6
            clear hn6
            have hb6 : w6.heap[w.heap.size + 1]? = some (.cells #[.slice A0 stp.length c0, .int .i64 evy] 24 (0, 0)) := (hgr6.block (w.heap.size + 1) (blk_lt HB.out) (fun e => by have := (HO.out.lt _ e.symm).1; omega)).trans HB.out
            have y0 : wr.cell? ⟨w.heap.size + 1, 0, none⟩ = some (.slice A0 stp.length c0) := by rw [blk_cell HB.out]; rfl
            have y2 := fun o : Obj => cell_stays (w' := wr.alloc o) ((Below.refl _ _).alloc (Nat.le_refl _) _) y0
            have z1 : w6.cell? ⟨w.heap.size + 1, 0, none⟩ = some (.slice A0 stp.length c0) := by rw [blk_cell hb6]; rfl
            have z2 : w6.frozen? ⟨w.heap.size + 1, 0, none⟩ = false := blk_frozen hb6
            have hg6 : Below w.heap.size w w6 := HBE.out.grown (⟨hgr6.os, hgr6.tape, hgr6.output, hgr6.size, hgr6.block⟩ : wr.grownBy w6 _) HBE.out.size (fun k hk => by have := (HO.out.lt k hk).1; omega)
            have HB6 := hide hb6
            have HO6 := hide ho6
            have HG6 := hide hg6
            have HGR := hide hgr6
            clear hb6 ho6 hg6 hgr6 hv6
            go_region_law (refine step_append0 rfl _ _ 22 rfl (.slice A0 stp.length c0) _ (.slice A6 n6 c6) rfl rfl hrun ?_)
            all_goals
              have hb7 := blk_set HB6.out 0 (.slice A6 n6 c6)
              have hk7 : Kept (fun k => k = w.heap.size + 1) w6 (w6.setCell ⟨w.heap.size + 1, 0, none⟩ (.slice A6 n6 c6)) := (Kept.refl (fun k => k = w.heap.size + 1) w6).setCell (p := ⟨w.heap.size + 1, 0, none⟩) (.inl rfl) _
              have ha7 : (w6.setCell ⟨w.heap.size + 1, 0, none⟩ (.slice A6 n6 c6)).heap[w.heap.size]? = some (.cells #[.slice none 0 0, .int .i64 0] 24 (0, 0)) := blk_kept (blk_grown HA.out (⟨HGR.out.os, HGR.out.tape, HGR.out.output, HGR.out.size, HGR.out.block⟩ : wr.grownBy w6 _) (fun e => by have := (HO.out.lt _ e.symm).1; omega)) hk7 (by omega)
              have ho7 := HO6.out.step (w' := w6.setCell ⟨w.heap.size + 1, 0, none⟩ (.slice A6 n6 c6)) (fun k hk => hk7.block k (HO6.out.lt k hk).2 (by have := (HO6.out.lt k hk).1; omega)) (fun k hk => hk.elim)
              have hg7 : Below w.heap.size w (w6.setCell ⟨w.heap.size + 1, 0, none⟩ (.slice A6 n6 c6)) := HG6.out.trans (hk7.below HG6.out.size (fun i h => by omega))
              have HB7 := hide hb7
              have HA7 := hide ha7
              have HO7 := hide ho7
              have HG7 := hide hg7
              clear hb7 hk7 ha7 ho7 hg7 hwm z1 z2 y0 y2 hrun
              generalize (w6.setCell ⟨w.heap.size + 1, 0, none⟩ (.slice A6 n6 c6)) = w7 at HB7 HA7 HO7 HG7 ⊢
              have hst := HSTEP.out
              rw [if_neg HC.out, h3, show kindB 1 = 82 from rfl] at hst
              have HST := hide hst
              clear hst
            all_goals go_wp2_with fail
            all_goals go_roundw
            all_goals first
              | exact ⟨i + 1, .slice A6 n6 c6, by go_num, by omega, by rw [HST.out], hide (by rw [HST.out]; exact ⟨by show 0 ≤ at0 + (1 + (p : Int)); omega, by show at0 + (1 + (p : Int)) ≤ _; omega, by show (stp ++ [_]).length ≤ _; rw [List.length_append, List.length_singleton]; omega⟩), HA7, hide (by rw [HST.out]; exact HB7.out), hide (by rw [HST.out]; exact HO7.out), HG7⟩
              | (simp [intOf]; omega)
          · go_upto_region 10 with fail
            have hwm : IntKind.i64.wrap (m : Int) = (m : Int) := by rw [IntKind.wrap_i64]; omega
            obtain ⟨v6, w6, hrun, ho6, hgr6, hv6⟩ := push_kind (P := Try.prog) (w := wr.drew) stopK 22 22 100 _ 16 Try.underlying22 info_stop rfl (by decide) (by decide) (HO.out.below (Below.refl wr.heap.size wr).drew) (y := ⟨at0 + (1 + (p : Int)), 67⟩) (cs := [.int .i64 (at0 + (1 + (p : Int))), .int .u8 67]) rfl (fun k hk => hk.elim) (by show (stp.length + 1) * 16 ≤ _; omega) (show w.heap.size + 2 ≤ wr.heap.size by have := blk_lt HB.out; omega)
            obtain ⟨A6, c6, rfl, -, -, -, -, -⟩ := ho6.form
            obtain ⟨n6, hn6⟩ : ∃ n6, n6 = (stp ++ [(⟨at0 + (1 + (p : Int)), 67⟩ : StopT)]).length := ⟨_, rfl⟩
            rw [← hn6] at hrun ho6 hv6
            clear hn6
            have hb6 : w6.heap[w.heap.size + 1]? = some (.cells #[.slice A0 stp.length c0, .int .i64 evy] 24 (0, 0)) := (hgr6.block (w.heap.size + 1) (blk_lt HB.out) (fun e => by have := (HO.out.lt _ e.symm).1; omega)).trans HB.out
            have y0 : wr.cell? ⟨w.heap.size + 1, 0, none⟩ = some (.slice A0 stp.length c0) := by rw [blk_cell HB.out]; rfl
            have y2 := fun o : Obj => cell_stays (w' := wr.alloc o) ((Below.refl _ _).alloc (Nat.le_refl _) _) y0
            have z1 : w6.cell? ⟨w.heap.size + 1, 0, none⟩ = some (.slice A0 stp.length c0) := by rw [blk_cell hb6]; rfl
            have z2 : w6.frozen? ⟨w.heap.size + 1, 0, none⟩ = false := blk_frozen hb6
            have hg6 : Below w.heap.size w w6 := HBE.out.grown (⟨hgr6.os, hgr6.tape, hgr6.output, hgr6.size, hgr6.block⟩ : wr.grownBy w6 _) HBE.out.size (fun k hk => by have := (HO.out.lt k hk).1; omega)
            have HB6 := hide hb6
            have HO6 := hide ho6
            have HG6 := hide hg6
            have HGR := hide hgr6
            clear hb6 ho6 hg6 hgr6 hv6
            go_region_law (refine step_append0 rfl _ _ 22 rfl (.slice A0 stp.length c0) _ (.slice A6 n6 c6) rfl rfl hrun ?_)
            all_goals
              have hb7 := blk_set HB6.out 0 (.slice A6 n6 c6)
              have hk7 : Kept (fun k => k = w.heap.size + 1) w6 (w6.setCell ⟨w.heap.size + 1, 0, none⟩ (.slice A6 n6 c6)) := (Kept.refl (fun k => k = w.heap.size + 1) w6).setCell (p := ⟨w.heap.size + 1, 0, none⟩) (.inl rfl) _
              have ha7 : (w6.setCell ⟨w.heap.size + 1, 0, none⟩ (.slice A6 n6 c6)).heap[w.heap.size]? = some (.cells #[.slice none 0 0, .int .i64 0] 24 (0, 0)) := blk_kept (blk_grown HA.out (⟨HGR.out.os, HGR.out.tape, HGR.out.output, HGR.out.size, HGR.out.block⟩ : wr.grownBy w6 _) (fun e => by have := (HO.out.lt _ e.symm).1; omega)) hk7 (by omega)
              have ho7 := HO6.out.step (w' := w6.setCell ⟨w.heap.size + 1, 0, none⟩ (.slice A6 n6 c6)) (fun k hk => hk7.block k (HO6.out.lt k hk).2 (by have := (HO6.out.lt k hk).1; omega)) (fun k hk => hk.elim)
              have hg7 : Below w.heap.size w (w6.setCell ⟨w.heap.size + 1, 0, none⟩ (.slice A6 n6 c6)) := HG6.out.trans (hk7.below HG6.out.size (fun i h => by omega))
              have HB7 := hide hb7
              have HA7 := hide ha7
              have HO7 := hide ho7
              have HG7 := hide hg7
              clear hb7 hk7 ha7 ho7 hg7 hwm z1 z2 y0 y2 hrun
              generalize (w6.setCell ⟨w.heap.size + 1, 0, none⟩ (.slice A6 n6 c6)) = w7 at HB7 HA7 HO7 HG7 ⊢
              have hst := HSTEP.out
              rw [if_neg HC.out, h3, show kindB 2 = 67 from rfl] at hst
              have HST := hide hst
              clear hst
            all_goals go_wp2_with fail
            all_goals go_roundw
            all_goals first
              | exact ⟨i + 1, .slice A6 n6 c6, by go_num, by omega, by rw [HST.out], hide (by rw [HST.out]; exact ⟨by show 0 ≤ at0 + (1 + (p : Int)); omega, by show at0 + (1 + (p : Int)) ≤ _; omega, by show (stp ++ [_]).length ≤ _; rw [List.length_append, List.length_singleton]; omega⟩), HA7, hide (by rw [HST.out]; exact HB7.out), hide (by rw [HST.out]; exact HO7.out), HG7⟩
              | (simp [intOf]; omega)
    · have hin : i = n := by omega
      have HIN := hide hin
      clear hin
      obtain ⟨A0, c0, rfl, -, -, -, -, -⟩ := HO.out.form
      obtain ⟨m0, hm0⟩ : ∃ m0, m0 = (run12 L i).stops.length := ⟨_, rfl⟩
      obtain ⟨e0, he0⟩ : ∃ e0, e0 = (run12 L i).every := ⟨_, rfl⟩
      rw [← he0] at HB
      have HE0 := hide he0
      rw [← hm0] at HB
      have HM0 := hide hm0
      clear hm0 he0
      go_wp2_with (first
        | refine wpList_load_row rfl 24 _ rfl (w.heap.size + 1) rfl 24 _ (0, 0) _ HB.out Try.underlying24 rfl size_stops ?_
        | refine wpList_store_row rfl 24 _ _ rfl w.heap.size _ rfl rfl 24 _ HA.out size_stops rfl (stops_one _ _ _ _) ?_)
      refine bodyPost_ret (results_cell_row rfl _ _ w.heap.size 24 _ (0, 0) _ rfl (setRow_heap _ _ _ _ _ _ HA.out) Try.underlying24 rfl size_stops) rfl ?_
      have hin := HIN.out
      subst hin
      have hsl := (HO.out.sl.weaken (ok' := fun k => w.heap.size + 2 ≤ k) (fun k hk => hk.elim (fun h => h.elim) id)).step (w' := wr.setRow w.heap.size #[.slice A0 m0 c0, .int .i64 e0]) (fun k hk _ => setRow_other wr w.heap.size k _ (by omega))
      rw [← HM0.out] at hsl
      refine ⟨.slice A0 m0 c0, by rw [← HE0.out], hsl.weaken (fun k hk => by omega), below_setRow HBE.out (Nat.le_refl _) _⟩
end Go.Proofs.Ytekkjieoikgpmaa
