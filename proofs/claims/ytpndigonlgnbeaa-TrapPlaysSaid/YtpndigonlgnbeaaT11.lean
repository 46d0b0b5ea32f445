/- The trap table: All, Copy; slices.SortStableFunc; On. -/
import Derived.Test.YtpndigonlgnbeaaT9
import Derived.Test.YtpndigonlgnbeaaT10
set_option linter.unusedVariables false
set_option linter.unusedSimpArgs false
namespace Go.Proofs.Ytpndigonlgnbeaa
open Go.RowKit
set_option maxHeartbeats 1600000
set_option maxRecDepth 1000000

/-- A table that was made, at block g: its row is v, its traps ts. -/
structure Tab (base : Nat) (w : World) (g : Nat) (v : Value) (ts : List TrapT) : Prop where
  blk : w.heap[g]? = some (.cells #[v, .bool true] 55 (0, 0))
  hg : base ≤ g
  own : trapK.Own 33 w (fun _ => False) base v ts
namespace Tab
variable {base : Nat} {w w' : World} {g : Nat} {v : Value} {ts : List TrapT}
theorem c0 (h : Tab base w g v ts) : w.cell? ⟨g, 0, none⟩ = some v := by rw [blk_cell h.blk]; rfl
theorem c1 (h : Tab base w g v ts) : w.cell? ⟨g, 1, none⟩ = some (.bool true) := by rw [blk_cell h.blk]; rfl
theorem lt (h : Tab base w g v ts) : g < w.heap.size := blk_lt h.blk
theorem frozen (h : Tab base w g v ts) (i : Nat) : w.frozen? ⟨g, i, none⟩ = false := blk_frozen h.blk
theorem ne (h : Tab base w g v ts) : v.ownBlock ≠ some g := by
  intro e
  obtain ⟨cells, hc⟩ := h.own.typed g e
  exact blk_ne h.blk hc (by decide) rfl
theorem below (h : Tab base w g v ts) (hb : Below w.heap.size w w') : Tab base w' g v ts := ⟨blk_below h.blk hb h.lt, h.hg, h.own.below hb⟩
theorem kept {S : Nat → Prop} (h : Tab base w g v ts) (hk : Kept S w w') (h1 : ¬ S g) (h2 : ∀ k, v.ownBlock = some k → ¬ S k) : Tab base w' g v ts :=
  ⟨blk_kept h.blk hk h1, h.hg, h.own.step (fun k e => hk.block k (h.own.lt k e).2 (h2 k e)) (fun k hk => hk.elim)⟩
theorem lower {b : Nat} (h : Tab base w g v ts) (hb : b ≤ base) : Tab b w g v ts := ⟨h.blk, Nat.le_trans hb h.hg, h.own.lower hb⟩
end Tab

theorem new_tab (w : World) : Tab w.heap.size (w.alloc (.cells #[.slice none 0 0, .bool true] 55)) w.heap.size (.slice none 0 0) [] :=
  ⟨blk_new w _, Nat.le_refl _, Kind.Own.nil _ _ _ _ _⟩

/-- append of one element that has just been laid in a block of its own, the block's number by an equation. -/
theorem wpList_append_one_at {α : Type} {ok : Nat → Prop} {base : Nat} {P : Program} {ops : Array Oper} {rest : List Oper} {o : Oper} {a : Act} {Q : Exit → Act → World → Prop} (w : World) (d : Kind α) (hgd : o.guard = none) (s x : Operand) (t : TypeId) (ho : o.op = .call { callee := .builtin .append, args := #[s, x], argTypes := #[t, t] })
    (e : TypeId) (z : Value) (bytes : Nat) (ht : P.underlying t = some (.slice e)) (hinfo : (P.info? e).map (fun i => (i.zero, i.size, i.bytes)) = some (some z, d.sz, bytes))
    (hzs : z.cells.size = d.sz) (hs0 : 0 < d.sz) (hb0 : 0 < bytes) (v : Value) (l1 : List α) (hs : a.eval s = v) (hown : d.Own e w ok base v l1) (y : α) (cs : List Value) (gx : Nat) (hgx : gx = w.heap.size) (hx : a.eval x = .slice (some ⟨gx, 0, none⟩) 1 1)
    (hK : d.K w ok y cs) (hok : ∀ k, ok k → v.ownBlock ≠ some k) (hbytes : (l1.length + 1) * bytes ≤ 140737488355328) (hbase : base ≤ w.heap.size)
    (h : ∀ v' w', d.Own e w' ok base v' (l1 ++ [y]) → w.grownBy w' v.ownBlock → (v'.ownBlock = v.ownBlock ∨ ∃ b, v'.ownBlock = some b ∧ w.heap.size < b) → wpList P ops Q rest (a.put o.dst v') w') : wpList P ops Q (o :: rest) a (w.alloc (.cells cs.toArray e)) := by
  subst hgx
  exact wpList_append_one w d hgd s x t ho e z bytes ht hinfo hzs hs0 hb0 v l1 hs hown y cs hx hK hok hbytes hbase h

theorem All_trap (base g : Nat) (v : Value) (ts : List TrapT) (w : World) (hT : Tab base w g v ts) (hn : ts.length ≤ 1000000000000) :
    Calls Try.prog 22 #[.pointer (some ⟨g, 0, none⟩)] w fun e w' => ∃ v', e = .returned v' ∧ trapK.Own 33 w' (fun _ => False) w.heap.size v' ts ∧ Below w.heap.size w w' := by
  have HT := hide hT
  obtain ⟨A, c, rfl, -, -, -, -, hrd⟩ := hT.own.form
  have HR := hide hrd
  have h0 := hT.c0
  have h1 := hT.c1
  clear hT hrd
  go_enter Try.func22, Try.ntmps22
  go_wp2_with (first
    | (go_at_call 23; refine (none_some _ _ _ h1).mono ?_; rintro e w' ⟨rfl, rfl⟩)
    | (go_at_call 46; refine (Clone_trap A ts.length c ts _ _ HR.out hn).mono ?_; rintro e w' ⟨v', rfl, q1, q2⟩; have Q1 := hide q1; have Q2 := hide q2; clear q1 q2))
  go_ret
  exact ⟨_, rfl, Q1.out, Q2.out⟩

theorem Copy_trap (base g : Nat) (v : Value) (ts : List TrapT) (w : World) (hT : Tab base w g v ts) (hn : ts.length ≤ 1000000000000) :
    Calls Try.prog 20 #[.pointer (some ⟨g, 0, none⟩)] w fun e w' => ∃ g' v', e = .returned (.pointer (some ⟨g', 0, none⟩)) ∧ Tab w.heap.size w' g' v' ts ∧ Below w.heap.size w w' := by
  have HT := hide hT
  obtain ⟨A, c, rfl, -, -, -, -, hrd⟩ := hT.own.form
  have HR := hide hrd
  have h0 := hT.c0
  have h1 := hT.c1
  clear hT hrd
  go_enter Try.func20, Try.ntmps20
  go_wp2_with (first
    | (go_at_call 23; refine (none_some _ _ _ h1).mono ?_; rintro e w' ⟨rfl, rfl⟩)
    | (go_at_call 46; refine (Clone_trap A ts.length c ts _ _ HR.out hn).mono ?_; rintro e w' ⟨v', rfl, q1, q2⟩; obtain ⟨A', c', rfl, -, -, -, -, -⟩ := Kind.Own.form q1; have Q1 := hide q1; have Q2 := hide q2; clear q1 q2))
  go_ret
  exact ⟨_, _, rfl, ⟨blk_new _ _, Q2.out.size, Q1.out.below ((Below.refl _ _).alloc (Nat.le_refl _) _)⟩, Q2.out.alloc Q2.out.size _⟩

theorem insertion_none (A : Option Addr) (c : Nat) (f : Value) (w : World) :
    Calls Try.prog 60 #[.slice A 0 c, .int .i64 0, .int .i64 0, f] w fun e w' => e = .returned (.tuple #[]) ∧ w = w' := by
  go_enter Try.func60, Try.ntmps60
  go_wp2_with fail
  go_loopw [8] (fun t8 wr => t8 = .int .i64 1 ∧ w = wr) (fun _ _ => 0)
  case atStart => exact ⟨rfl, rfl⟩
  case round =>
    obtain ⟨rfl, rfl⟩ := hrel
    go_wp2_with fail
    go_end0
    exact ⟨rfl, rfl⟩

theorem stable_none (A : Option Addr) (c : Nat) (f : Value) (w : World) :
    Calls Try.prog 50 #[.slice A 0 c, .int .i64 0, f] w fun e w' => e = .returned (.tuple #[]) ∧ w = w' := by
  go_enter Try.func50, Try.ntmps50
  go_wp2_with fail
  go_loopw [7, 8] (fun t7 t8 wr => t7 = .int .i64 0 ∧ t8 = .int .i64 20 ∧ w = wr) (fun _ _ _ => 0)
  case atStart => exact ⟨rfl, rfl, rfl⟩
  case round =>
    obtain ⟨rfl, rfl, rfl⟩ := hrel
    go_wp2_with (go_at_call 60; refine (insertion_none _ _ _ _).mono ?_; rintro e w' ⟨rfl, rfl⟩)
    go_loopw [6, 7, 8, 9] (fun t6 _ _ _ wr => t6 = .int .i64 20 ∧ w = wr) (fun _ _ _ _ _ => 0)
    case atStart => exact ⟨rfl, rfl⟩
    case round =>
      obtain ⟨rfl, rfl⟩ := hrel
      go_wp2_with fail
      go_end0
      exact ⟨rfl, rfl⟩

theorem SortStable_trap (base : Nat) (v : Value) (l : List TrapT) (w : World) (hown : trapK.Own 33 w (fun _ => False) base v l) (hn : l.length ≤ 1000000000000) :
    Calls Try.prog 27 #[v, .func (.func 28) #[] #[]] w fun e w' => e = .returned (.tuple #[]) ∧ trapK.Own 33 w' (fun _ => False) base v (TS.isort TK l) ∧ Kept (fun k => v.ownBlock = some k) w w' := by
  obtain ⟨A, c, rfl, -, -, -, -, -⟩ := hown.form
  rcases Nat.eq_zero_or_pos l.length with h0 | h0
  · have hl : l = [] := List.eq_nil_of_length_eq_zero h0
    subst hl
    have HO := hide hown
    clear hown
    go_enter Try.func27, Try.ntmps27
    go_wp2_with (go_at_call 50; refine (stable_none _ _ _ _).mono ?_; rintro e w' ⟨rfl, rfl⟩)
    go_end0
    exact ⟨rfl, HO.out, Kept.refl _ _⟩
  · obtain ⟨g0, rfl, -, hg0, hrow⟩ := hown.rowAt h0
    have HROW := hide hrow
    clear hown hrow
    go_enter Try.func27, Try.ntmps27
    go_wp2_with (go_at_call 50; refine (stable_trap g0 c l.length _ l _ hn HROW.out rfl rfl).mono ?_; rintro e w' ⟨rfl, q1, q2⟩; have Q1 := hide q1; have Q2 := hide q2; clear q1 q2)
    go_end0
    have ho := Q1.out.own hg0
    rw [TS.isort_length] at ho
    exact ⟨rfl, ho, Q2.out.mono fun i _ h => by rw [h]; rfl⟩

/-- The traps of a page of a length. -/
def landP (len : Int) (t : TrapT) : Option TrapT := (landsP t.at_ len).map fun a => ⟨a, t.nm⟩
def onP (len : Int) (ts : List TrapT) : List TrapT := TS.isort TK (ts.filterMap (landP len))
theorem landP_none {len : Int} {t : TrapT} (h : landsP t.at_ len = none) : landP len t = none := by unfold landP; rw [h]; rfl
theorem landP_some {len b : Int} {t : TrapT} (h : landsP t.at_ len = some b) : landP len t = some ⟨b, t.nm⟩ := by unfold landP; rw [h]; rfl
theorem fm_none {len : Int} {l : List TrapT} {k : Nat} (hk : k < l.length) (h : landP len l[k] = none) : (l.take (k + 1)).filterMap (landP len) = (l.take k).filterMap (landP len) := by
  rw [List.take_succ_eq_append_getElem hk, List.filterMap_append]
  simp [h]
theorem fm_some {len : Int} {l : List TrapT} {k : Nat} {y : TrapT} (hk : k < l.length) (h : landP len l[k] = some y) : (l.take (k + 1)).filterMap (landP len) = (l.take k).filterMap (landP len) ++ [y] := by
  rw [List.take_succ_eq_append_getElem hk, List.filterMap_append]
  simp [h]
theorem fm_len (len : Int) (l : List TrapT) (k : Nat) : ((l.take k).filterMap (landP len)).length ≤ l.length :=
  Nat.le_trans (List.length_filterMap_le _ _) (by rw [List.length_take]; omega)

theorem On_trap (base g : Nat) (v : Value) (ts : List TrapT) (len : Int) (w : World) (hT : Tab base w g v ts) (hn : ts.length ≤ 1000000) :
    Calls Try.prog 10 #[.pointer (some ⟨g, 0, none⟩), .int .i64 len] w fun e w' => ∃ v', e = .returned v' ∧ trapK.Own 33 w' (fun _ => False) w.heap.size v' (onP len ts) ∧ Below w.heap.size w w' := by
  have HT := hide hT
  clear hT
  go_enter Try.func10, Try.ntmps10
  go_wp2_with (go_at_call 22; refine (All_trap base g v ts _ HT.out (by omega)).mono ?_; rintro e w1 ⟨v1, rfl, q1, q2⟩; obtain ⟨A1, c1, rfl, -, -, -, -, q3⟩ := Kind.Own.form q1; have Q1 := hide q1; have Q2 := hide q2; have Q3 := hide q3; clear q1 q2 q3)
  go_loopw [5, 8, 9, 13] (fun t5 _ _ t13 wr => ∃ k : Nat, t13 = .int .i64 k ∧ k ≤ ts.length ∧ Hid (trapK.Own 33 wr (fun _ => False) w1.heap.size t5 ((ts.take k).filterMap (landP len))) ∧ Hid (Below w1.heap.size w1 wr)) (fun _ _ _ t13 _ => ts.length - (intOf t13).toNat)
  case atStart => exact ⟨0, rfl, Nat.zero_le _, Kind.Own.nil _ _ _ _ _, Below.refl _ _⟩
  case round =>
    obtain ⟨k, rfl, hk, HO, HK⟩ := hrel
    by_cases hlt : k < ts.length
    · obtain ⟨b, off, cs, rfl, hblt, hK, hcell⟩ := (Q3.out.below HK.out).at_ hlt
      subst hK
      have hfl := fm_len len ts k
      have c0 : wr.cell? ⟨b, off + k * 2, none⟩ = some (.int .i64 ts[k].at_) := hcell 0 _ rfl
      have c1 : wr.cell? ⟨b, off + k * 2 + 1, none⟩ = some (.string ts[k].nm) := hcell 1 _ rfl
      clear hcell
      obtain ⟨x, hx⟩ : ∃ x, x = ts[k] := ⟨_, rfl⟩
      rw [← hx] at c0 c1
      have HX := hide hx
      clear hx
      have hal : Below wr.heap.size wr (wr.alloc (.cells #[.int .i64 x.at_, .string x.nm] 33)) := (Below.refl _ _).alloc (Nat.le_refl _) _
      have HAL := hide hal
      clear hal
      cases hlp : landsP x.at_ len with
      | none =>
        have HL := hide hlp
        clear hlp
        go_wp2_with (go_at_call 26; refine (Lands_any _ _ _).mono ?_; rintro e w' ⟨rfl, rfl⟩; rw [HL.out])
        go_roundw
        case rel => exact ⟨k + 1, by go_num, by omega, hide (by rw [fm_none hlt (by rw [← HX.out]; exact landP_none HL.out)]; exact HO.out.below HAL.out), hide (HK.out.trans (HAL.out.mono HK.out.size))⟩
        case measure => simp [intOf]; omega
      | some b1 =>
        have HL := hide hlp
        clear hlp
        have HO2 := hide (HO.out.below HAL.out)
        have hsz : w1.heap.size ≤ (wr.alloc (.cells #[.int .i64 x.at_, .string x.nm] 33)).heap.size := by have := HK.out.size; simp; omega
        have HSZ := hide hsz
        clear hsz
        go_wp2_with (first
          | (go_at_call 26; refine (Lands_any _ _ _).mono ?_; rintro e w' ⟨rfl, rfl⟩; rw [HL.out])
          | (at_builtin; refine wpList_append_one_at (ok := fun _ => False) (base := w1.heap.size) (wr.alloc (.cells #[.int .i64 x.at_, .string x.nm] 33)) trapK rfl _ _ 27 rfl 33 _ 24 Try.underlying27 info_trap rfl (by decide) (by decide) u5 ((ts.take k).filterMap (landP len)) rfl HO2.out (⟨b1, x.nm⟩ : TrapT) [.int .i64 b1, .string x.nm] _ (by simp) rfl rfl (fun k h => h.elim) (by omega) HSZ.out ?_; intro v2 w2 hown2 hg2 hat2; have HO3 := hide hown2; have HG := hide hg2; have HAT := hide hat2; clear hown2 hg2 hat2))
        go_roundw
        case rel => exact ⟨k + 1, by go_num, by omega, hide (by rw [fm_some hlt (by rw [← HX.out]; exact landP_some HL.out)]; exact HO3.out), hide (by
            have h1 : Below w1.heap.size w1 (wr.alloc (.cells #[.int .i64 x.at_, .string x.nm] 33)) := HK.out.trans (HAL.out.mono HK.out.size)
            exact h1.grown HG.out HSZ.out (fun j hj => (HO2.out.lt j hj).1))⟩
        case measure => simp [intOf]; omega
    · have hkn : k = ts.length := by omega
      subst hkn
      have ho := HO.out
      rw [List.take_length] at ho
      have hfl : (ts.filterMap (landP len)).length ≤ ts.length := List.length_filterMap_le _ _
      have HO1 := hide ho
      clear ho
      go_wp2_with (go_at_call 27; refine (SortStable_trap w1.heap.size u5 _ _ HO1.out (by omega)).mono ?_; rintro e w2 ⟨rfl, q1, q2⟩; have P1 := hide q1; have P2 := hide q2; clear q1 q2)
      go_ret
      exact ⟨_, rfl, P1.out.lower Q2.out.size, Q2.out.trans ((HK.out.trans (P2.out.below (B := w1.heap.size) HK.out.size (fun i h => (HO1.out.lt i h).1))).mono Q2.out.size)⟩
end Go.Proofs.Ytpndigonlgnbeaa
