/- The document's table: All, Copy, keep, Clear, Drop, Plant, Move. -/
import Derived.Test.YtpndigonlgnbeaaT30
set_option linter.unusedVariables false
set_option linter.unusedSimpArgs false
namespace Go.Proofs.Ytpndigonlgnbeaa
open Go.RowKit
set_option maxHeartbeats 1600000
set_option maxRecDepth 1000000

/-- append of a row to a new, empty one. -/
theorem wpList_copy {P : Program} {ok : Nat → Prop} {ops : Array Oper} {rest : List Oper} {o : Oper} {a : Act} {Q : Exit → Act → World → Prop} (W : World) (hgd : o.guard = none) (s x : Operand) (t : TypeId) (ho : o.op = .call { callee := .builtin .append, args := #[s, x], argTypes := #[t, t] })
    (e : TypeId) (z : Value) (ht : P.underlying t = some (.slice e)) (hinfo : (P.info? e).map (fun i => (i.zero, i.size, i.bytes)) = some (some z, 2, 24)) (hzs : z.cells.size = 2)
    (gx : Nat) (hgx : gx = W.heap.size) (hs : a.eval s = .slice (some ⟨gx, 0, none⟩) 0 0) (A : Option Addr) (n c : Nat) (l : List TrapT) (hx : a.eval x = .slice A n c) (hR : trapK.Rd W ok A n l) (hn : n ≤ 1000000000000)
    (h : ∀ v' w', trapK.Own e w' (fun _ => False) W.heap.size v' l → Below W.heap.size W w' → wpList P ops Q rest (a.put o.dst v') w') : wpList P ops Q (o :: rest) a (W.alloc (.cells #[] e)) := by
  subst hgx
  have hw0 : Below W.heap.size W (W.alloc (.cells #[] e)) := (Below.refl _ _).alloc (Nat.le_refl _) _
  refine wpList_append_rd (ok := fun k => ok k ∧ k < W.heap.size) (base := W.heap.size) (W.alloc (.cells #[] e)) trapK hgd s x t ho e z 24 ht hinfo hzs (by decide) (by decide) _ [] hs ⟨[], World.ownsRow_made W #[] 0 (Nat.le_refl _) (Nat.zero_le _) rfl, Kind.Reps.nil _ _ _⟩ A n c l hx (hR.bound.below hw0)
    (fun k hk e => by simp [Value.ownBlock] at e; omega) (by simp; omega) (by simp) ?_
  intro v1 w1 hown1 hg1 hat1
  refine h v1 w1 (by simpa using own_any hown1) ?_
  exact ((Below.refl _ _).alloc (Nat.le_refl _) _).grown hg1 (by simp) (fun k hk => by have h2 : W.heap.size = k := Option.some.inj hk; omega)

theorem RAll_tab (base g : Nat) (v : Value) (ts : List TrapT) (w : World) (hT : RTab base w g v ts) (hn : ts.length ≤ 1000000) :
    Calls Try.prog 39 #[.pointer (some ⟨g, 0, none⟩)] w fun e w' => ∃ v', e = .returned v' ∧ trapK.Own 84 w' (fun _ => False) w.heap.size v' ts ∧ Below w.heap.size w w' := by
  obtain ⟨A, c, rfl, -, -, -, -, hrd⟩ := hT.own.form
  have HR := hide hrd
  have h0 := hT.c0
  have h1 := (hT.below (below_one (.cells #[] 84))).c1
  clear hT hrd
  go_enter Try.func39, Try.ntmps39
  go_wp2_with (first
    | (go_at_call 47; refine (no_some _ _ _ h0).mono ?_; rintro e w' ⟨rfl, rfl⟩)
    | (at_builtin; refine wpList_copy w rfl _ _ 66 rfl 84 _ Try.underlying66 info_rtrap rfl _ rfl rfl A ts.length c ts rfl HR.out (by omega) ?_; intro v1 w1 q1 q2; have Q1 := hide q1; have Q2 := hide q2; clear q1 q2))
  go_ret
  exact ⟨_, rfl, Q1.out, Q2.out⟩

theorem RCopy_tab (base g : Nat) (v : Value) (ts : List TrapT) (w : World) (hT : RTab base w g v ts) (hn : ts.length ≤ 1000000) :
    Calls Try.prog 21 #[.pointer (some ⟨g, 0, none⟩)] w fun e w' => ∃ g' v', e = .returned (.pointer (some ⟨g', 0, none⟩)) ∧ RTab w.heap.size w' g' v' ts ∧ Below w.heap.size w w' := by
  obtain ⟨A, c, rfl, -, -, -, -, hrd⟩ := hT.own.form
  have HR := hide hrd
  have h0 := hT.c0
  have h1 := (hT.below (below_one (.cells #[] 84))).c1
  clear hT hrd
  go_enter Try.func21, Try.ntmps21
  go_wp2_with (first
    | (go_at_call 47; refine (no_some _ _ _ h0).mono ?_; rintro e w' ⟨rfl, rfl⟩)
    | (at_builtin; refine wpList_copy w rfl _ _ 66 rfl 84 _ Try.underlying66 info_rtrap rfl _ rfl rfl A ts.length c ts rfl HR.out (by omega) ?_; intro v1 w1 q1 q2; obtain ⟨A', c', rfl, -, -, -, -, -⟩ := Kind.Own.form q1; have Q1 := hide q1; have Q2 := hide q2; clear q1 q2))
  go_ret
  exact ⟨_, _, rfl, ⟨blk_new _ _, Q2.out.size, Q1.out.below (below_one _)⟩, Q2.out.alloc Q2.out.size _⟩

/-- A deed has been done at the document's table at g. -/
def RMut (base : Nat) (w w' : World) (g : Nat) (v : Value) (ts' : List TrapT) : Prop :=
  ∃ v', RTab base w' g v' ts' ∧ Kept (fun k => k = g) w w' ∧ ∀ k, v'.ownBlock = some k → v.ownBlock = some k ∨ w.heap.size ≤ k
theorem RMut.same {base : Nat} {w w' : World} {g : Nat} {v : Value} {ts : List TrapT} (h : RTab base w g v ts) (hb : Below w.heap.size w w') : RMut base w w' g v ts :=
  ⟨v, h.below hb, Kept.of_below hb, fun k hk => .inl hk⟩
theorem RMut.after {base : Nat} {w w1 w' : World} {g : Nat} {v : Value} {ts : List TrapT} (hb : Below w.heap.size w w1) (h : RMut base w1 w' g v ts) : RMut base w w' g v ts := by
  obtain ⟨v', h1, h2, h3⟩ := h
  exact ⟨v', h1, (Kept.of_below (S := fun _ => False) hb).trans h2 (fun _ _ h => h.elim) (fun _ _ h => h), fun k hk => (h3 k hk).imp id (fun h => Nat.le_trans hb.size h)⟩
/-- The table's row is changed for a new one. -/
theorem RMut.put {base : Nat} {w w1 : World} {g : Nat} {v v3 : Value} {ts ts' : List TrapT} (h : RTab base w g v ts) (hbase : base ≤ w.heap.size) (hb : Below w.heap.size w w1) (ho : trapK.Own 84 w1 (fun _ => False) w.heap.size v3 ts') :
    RMut base w (w1.setCell ⟨g, 1, none⟩ v3) g v ts' := by
  have hT2 := h.below hb
  have hne : v3.ownBlock ≠ some g := fun e => by have := (ho.lt g e).1; have := h.lt; omega
  refine ⟨v3, ⟨blk_set hT2.blk 1 v3, h.hg, ?_⟩, ?_, fun k hk => .inr (ho.lt k hk).1⟩
  · exact (ho.lower hbase).step (fun k e => Below.heap_setCell w1 ⟨g, 1, none⟩ v3 k (fun e' => hne (by rw [e, e']))) (fun k h => h.elim)
  · exact (Kept.of_below (S := fun k => k = g) hb).setCell (p := ⟨g, 1, none⟩) (.inl rfl) _

theorem take_hit (p : TrapT → Bool) (l : List TrapT) (k : Nat) (hk : k < l.length) (hq : p l[k] = true) : (l.take (k + 1)).filter p = (l.take k).filter p ++ [l[k]] := by
  rw [List.take_succ_eq_append_getElem hk, List.filter_append]
  simp [hq]
theorem take_miss (p : TrapT → Bool) (l : List TrapT) (k : Nat) (hk : k < l.length) (hq : p l[k] = false) : (l.take (k + 1)).filter p = (l.take k).filter p := by
  rw [List.take_succ_eq_append_getElem hk, List.filter_append]
  simp [hq]
theorem take_len (p : TrapT → Bool) (l : List TrapT) (k : Nat) : ((l.take k).filter p).length ≤ l.length := Nat.le_trans (List.length_filter_le _ _) (by rw [List.length_take]; omega)

theorem keepA_tab (base g : Nat) (v : Value) (ts : List TrapT) (a : Int) (s : ByteArray) (w : World) (hT : RTab base w g v ts) (hn : ts.length ≤ 1000000) (hbase : base ≤ w.heap.size) :
    Calls Try.prog 59 #[.pointer (some ⟨g, 0, none⟩), .bool true, .int .i64 a, .string s] w fun e w' => e = .returned (.int .i64 (if (ts.filter fun x => !(x.at_ == a)).length = ts.length then 3 else 0)) ∧ RMut base w w' g v (ts.filter fun x => !(x.at_ == a)) := by
  obtain ⟨r, hr⟩ : ∃ r : Int, r = if (ts.filter fun x => !(x.at_ == a)).length = ts.length then 3 else 0 := ⟨_, rfl⟩
  rw [← hr]
  have HRR := hide hr
  clear hr
  have HT := hide hT
  obtain ⟨A, c, rfl, -, -, -, -, hrd⟩ := hT.own.form
  have HR := hide hrd
  clear hT hrd
  obtain ⟨p, hp⟩ : ∃ p : TrapT → Bool, p = fun x => !(x.at_ == a) := ⟨_, rfl⟩
  have HPP := hide hp
  rw [← hp]
  have HRR2 := HRR.out
  rw [← hp] at HRR2
  have HRP := hide HRR2
  obtain ⟨fl, hfl⟩ : ∃ fl, fl = ts.filter p := ⟨_, rfl⟩
  rw [← hfl]
  have HFL := hide hfl
  clear HRR HRR2 hp hfl
  go_enter Try.func59, Try.ntmps59
  go_wp2_with fail
  go_loopw [9, 10, 11] (fun t9 t10 _ wr => ∃ k : Nat, t10 = .int .i64 k ∧ k ≤ ts.length ∧ Hid (trapK.Own 84 wr (fun _ => False) w.heap.size t9 ((ts.take k).filter p)) ∧ Hid (Below w.heap.size w wr)) (fun _ t10 _ _ => ts.length - (intOf t10).toNat)
  case atStart => exact ⟨0, rfl, Nat.zero_le _, Kind.Own.nil _ _ _ _ _, Below.refl _ _⟩
  case round =>
    obtain ⟨k, rfl, hk, HO, HK⟩ := hrel
    have c1 := (HT.out.below HK.out).c1
    by_cases hlt : k < ts.length
    · obtain ⟨x, hx⟩ : ∃ x, ts[k]? = some x := ⟨_, List.getElem?_eq_getElem hlt⟩
      obtain ⟨b, off, rfl, x0, x1⟩ := rd_trap (HR.out.below HK.out) hx
      have hxk : ts[k] = x := (List.getElem?_eq_some_iff.1 hx).2
      have HXK := hide hxk
      by_cases he : x.at_ = a
      · obtain ⟨xa, xn⟩ := x; have he' : xa = a := he; clear he; subst he'
        have hfl := take_len p ts k
        have hal : Below wr.heap.size wr (wr.alloc (.cells #[.int .i64 xa, .string xn] 84)) := below_one _
        have HAL := hide hal
        have HO2 := hide (HO.out.below hal)
        have hsz : w.heap.size ≤ (wr.alloc (.cells #[.int .i64 xa, .string xn] 84)).heap.size := Nat.le_trans HK.out.size hal.size
        have HSZ := hide hsz
        clear hx hxk hal hsz
        have hpx : p ts[k] = false := by rw [HXK.out, HPP.out]; simp
        have HPX := hide hpx
        clear hpx
        go_wp2_with fail
        go_roundw
        case rel => exact ⟨k + 1, by go_num, by omega, hide (by rw [take_miss p ts k hlt HPX.out]; exact HO2.out), hide (HK.out.trans (HAL.out.mono HK.out.size))⟩
        case measure => simp [intOf]; omega
      · have hz := he
        have hfl := take_len p ts k
        have hal : Below wr.heap.size wr (wr.alloc (.cells #[.int .i64 x.at_, .string x.nm] 84)) := below_one _
        have HAL := hide hal
        have HO2 := hide (HO.out.below hal)
        have hsz : w.heap.size ≤ (wr.alloc (.cells #[.int .i64 x.at_, .string x.nm] 84)).heap.size := Nat.le_trans HK.out.size hal.size
        have HSZ := hide hsz
        clear hx hxk hal hsz
        have he' : (x.at_ == a) = false := beq_eq_false_iff_ne.2 he
        have hpx : p ts[k] = true := by rw [HXK.out, HPP.out]; simp [he']
        have HPX := hide hpx
        clear hpx he
        go_wp2_with (at_builtin; refine wpList_append_one_at (ok := fun _ => False) (base := w.heap.size) (wr.alloc (.cells #[.int .i64 x.at_, .string x.nm] 84)) trapK rfl _ _ 66 rfl 84 _ 24 Try.underlying66 info_rtrap rfl (by decide) (by decide) u9 ((ts.take k).filter p) rfl HO2.out x [.int .i64 x.at_, .string x.nm] _ (by simp) rfl rfl (fun k h => h.elim) (by omega) HSZ.out ?_; intro v2 w2 hown2 hg2 hat2; have HO3 := hide hown2; have HG := hide hg2; have HAT := hide hat2; clear hown2 hg2 hat2)
        go_roundw
        case rel => exact ⟨k + 1, by go_num, by omega, hide (by rw [take_hit p ts k hlt HPX.out, HXK.out]; exact HO3.out), hide ((HK.out.trans (HAL.out.mono HK.out.size)).grown HG.out HSZ.out (fun j hj => (HO2.out.lt j hj).1))⟩
        case measure => simp [intOf]; omega
    · have hkn : k = ts.length := by omega
      subst hkn
      have ho := HO.out
      rw [List.take_length] at ho
      have HO1 := hide ho
      clear ho hlt HO
      obtain ⟨A9, c9, hu, -, -, -, -, -⟩ := HO1.out.form
      rw [← HFL.out] at HO1 hu
      have hrr := HRP.out
      rw [← HFL.out] at hrr
      clear HRP
      subst hu
      have f1 := (HT.out.below HK.out).frozen 1
      by_cases he : fl.length = ts.length
      · rw [if_pos he] at hrr
        have hft : fl = ts := by
          rw [HFL.out] at he ⊢
          exact List.filter_eq_self.2 (List.length_filter_eq_length_iff.1 he)
        have HFT := hide hft
        clear hft
        have hie : ((fl.length : Int) == (ts.length : Int)) = true := beq_iff_eq.2 (by omega)
        subst hrr
        clear he
        go_wp2_with fail
        go_ret
        exact ⟨rfl, by rw [HFT.out]; exact RMut.same HT.out HK.out⟩
      · rw [if_neg he] at hrr
        have hie : ((fl.length : Int) == (ts.length : Int)) = false := beq_eq_false_iff_ne.2 (by omega)
        subst hrr
        have hle : fl.length ≤ 9223372036854775807 := by
          have h1 := List.length_filter_le p ts
          rw [← HFL.out] at h1
          omega
        clear he
        go_wp2_with fail
        go_ret
        exact ⟨rfl, RMut.put HT.out hbase HK.out HO1.out⟩

theorem keepN_tab (base g : Nat) (v : Value) (ts : List TrapT) (a : Int) (s : ByteArray) (w : World) (hT : RTab base w g v ts) (hn : ts.length ≤ 1000000) (hbase : base ≤ w.heap.size) :
    Calls Try.prog 59 #[.pointer (some ⟨g, 0, none⟩), .bool false, .int .i64 a, .string s] w fun e w' => e = .returned (.int .i64 (if (ts.filter fun x => !(x.nm.toList == s.toList)).length = ts.length then 3 else 0)) ∧ RMut base w w' g v (ts.filter fun x => !(x.nm.toList == s.toList)) := by
  obtain ⟨r, hr⟩ : ∃ r : Int, r = if (ts.filter fun x => !(x.nm.toList == s.toList)).length = ts.length then 3 else 0 := ⟨_, rfl⟩
  rw [← hr]
  have HRR := hide hr
  clear hr
  have HT := hide hT
  obtain ⟨A, c, rfl, -, -, -, -, hrd⟩ := hT.own.form
  have HR := hide hrd
  clear hT hrd
  obtain ⟨p, hp⟩ : ∃ p : TrapT → Bool, p = fun x => !(x.nm.toList == s.toList) := ⟨_, rfl⟩
  have HPP := hide hp
  rw [← hp]
  have HRR2 := HRR.out
  rw [← hp] at HRR2
  have HRP := hide HRR2
  obtain ⟨fl, hfl⟩ : ∃ fl, fl = ts.filter p := ⟨_, rfl⟩
  rw [← hfl]
  have HFL := hide hfl
  clear HRR HRR2 hp hfl
  go_enter Try.func59, Try.ntmps59
  go_wp2_with fail
  go_loopw [9, 10, 11] (fun t9 t10 _ wr => ∃ k : Nat, t10 = .int .i64 k ∧ k ≤ ts.length ∧ Hid (trapK.Own 84 wr (fun _ => False) w.heap.size t9 ((ts.take k).filter p)) ∧ Hid (Below w.heap.size w wr)) (fun _ t10 _ _ => ts.length - (intOf t10).toNat)
  case atStart => exact ⟨0, rfl, Nat.zero_le _, Kind.Own.nil _ _ _ _ _, Below.refl _ _⟩
  case round =>
    obtain ⟨k, rfl, hk, HO, HK⟩ := hrel
    have c1 := (HT.out.below HK.out).c1
    by_cases hlt : k < ts.length
    · obtain ⟨x, hx⟩ : ∃ x, ts[k]? = some x := ⟨_, List.getElem?_eq_getElem hlt⟩
      obtain ⟨b, off, rfl, x0, x1⟩ := rd_trap (HR.out.below HK.out) hx
      have hxk : ts[k] = x := (List.getElem?_eq_some_iff.1 hx).2
      have HXK := hide hxk
      by_cases he : (x.nm.toList == s.toList) = true
      · have hz := he
        have hfl := take_len p ts k
        have hal : Below wr.heap.size wr (wr.alloc (.cells #[.int .i64 x.at_, .string x.nm] 84)) := below_one _
        have HAL := hide hal
        have HO2 := hide (HO.out.below hal)
        have hsz : w.heap.size ≤ (wr.alloc (.cells #[.int .i64 x.at_, .string x.nm] 84)).heap.size := Nat.le_trans HK.out.size hal.size
        have HSZ := hide hsz
        clear hx hxk hal hsz
        have hpx : p ts[k] = false := by rw [HXK.out, HPP.out]; simp [he]
        have HPX := hide hpx
        clear hpx
        go_wp2_with fail
        go_roundw
        case rel => exact ⟨k + 1, by go_num, by omega, hide (by rw [take_miss p ts k hlt HPX.out]; exact HO2.out), hide (HK.out.trans (HAL.out.mono HK.out.size))⟩
        case measure => simp [intOf]; omega
      · have hz := he
        have hfl := take_len p ts k
        have hal : Below wr.heap.size wr (wr.alloc (.cells #[.int .i64 x.at_, .string x.nm] 84)) := below_one _
        have HAL := hide hal
        have HO2 := hide (HO.out.below hal)
        have hsz : w.heap.size ≤ (wr.alloc (.cells #[.int .i64 x.at_, .string x.nm] 84)).heap.size := Nat.le_trans HK.out.size hal.size
        have HSZ := hide hsz
        clear hx hxk hal hsz
        have he' : (x.nm.toList == s.toList) = false := by simpa using he
        have hpx : p ts[k] = true := by rw [HXK.out, HPP.out]; simp [he']
        have HPX := hide hpx
        clear hpx he
        go_wp2_with (at_builtin; refine wpList_append_one_at (ok := fun _ => False) (base := w.heap.size) (wr.alloc (.cells #[.int .i64 x.at_, .string x.nm] 84)) trapK rfl _ _ 66 rfl 84 _ 24 Try.underlying66 info_rtrap rfl (by decide) (by decide) u9 ((ts.take k).filter p) rfl HO2.out x [.int .i64 x.at_, .string x.nm] _ (by simp) rfl rfl (fun k h => h.elim) (by omega) HSZ.out ?_; intro v2 w2 hown2 hg2 hat2; have HO3 := hide hown2; have HG := hide hg2; have HAT := hide hat2; clear hown2 hg2 hat2)
        go_roundw
        case rel => exact ⟨k + 1, by go_num, by omega, hide (by rw [take_hit p ts k hlt HPX.out, HXK.out]; exact HO3.out), hide ((HK.out.trans (HAL.out.mono HK.out.size)).grown HG.out HSZ.out (fun j hj => (HO2.out.lt j hj).1))⟩
        case measure => simp [intOf]; omega
    · have hkn : k = ts.length := by omega
      subst hkn
      have ho := HO.out
      rw [List.take_length] at ho
      have HO1 := hide ho
      clear ho hlt HO
      obtain ⟨A9, c9, hu, -, -, -, -, -⟩ := HO1.out.form
      rw [← HFL.out] at HO1 hu
      have hrr := HRP.out
      rw [← HFL.out] at hrr
      clear HRP
      subst hu
      have f1 := (HT.out.below HK.out).frozen 1
      by_cases he : fl.length = ts.length
      · rw [if_pos he] at hrr
        have hft : fl = ts := by
          rw [HFL.out] at he ⊢
          exact List.filter_eq_self.2 (List.length_filter_eq_length_iff.1 he)
        have HFT := hide hft
        clear hft
        have hie : ((fl.length : Int) == (ts.length : Int)) = true := beq_iff_eq.2 (by omega)
        subst hrr
        clear he
        go_wp2_with fail
        go_ret
        exact ⟨rfl, by rw [HFT.out]; exact RMut.same HT.out HK.out⟩
      · rw [if_neg he] at hrr
        have hie : ((fl.length : Int) == (ts.length : Int)) = false := beq_eq_false_iff_ne.2 (by omega)
        subst hrr
        have hle : fl.length ≤ 9223372036854775807 := by
          have h1 := List.length_filter_le p ts
          rw [← HFL.out] at h1
          omega
        clear he
        go_wp2_with fail
        go_ret
        exact ⟨rfl, RMut.put HT.out hbase HK.out HO1.out⟩

theorem RClear_tab (base g : Nat) (v : Value) (ts : List TrapT) (a : Int) (w : World) (hT : RTab base w g v ts) (hn : ts.length ≤ 1000000) (hbase : base ≤ w.heap.size) :
    Calls Try.prog 35 #[.pointer (some ⟨g, 0, none⟩), .int .i64 a] w fun e w' => e = .returned (.int .i64 (clearP a ts).1) ∧ RMut base w w' g v (clearP a ts).2 := by
  have HT := hide hT
  have h0 := hT.c0
  have hc : Hid (clearP a ts = if farB a = true then (1, ts) else (if (ts.filter fun x => !(x.at_ == a)).length = ts.length then 3 else 0, ts.filter fun x => !(x.at_ == a))) := rfl
  obtain ⟨r, hr⟩ : ∃ r : Int, r = if (ts.filter fun x => !(x.at_ == a)).length = ts.length then 3 else 0 := ⟨_, rfl⟩
  have HRR := hide hr
  clear hT hr
  cases hf : farB a with
  | true =>
    go_enter Try.func35, Try.ntmps35
    go_wp2_with (first
      | (go_at_call 47; refine (no_some _ _ _ h0).mono ?_; rintro e w' ⟨rfl, rfl⟩)
      | (go_at_call 57; refine (place_any _ _).mono ?_; rintro e w' ⟨rfl, rfl⟩))
    go_ret
    rw [hc.out, if_pos hf]
    exact ⟨rfl, RMut.same HT.out (Below.refl _ _)⟩
  | false =>
    go_enter Try.func35, Try.ntmps35
    go_wp2_with (first
      | (go_at_call 47; refine (no_some _ _ _ h0).mono ?_; rintro e w' ⟨rfl, rfl⟩)
      | (go_at_call 57; refine (place_any _ _).mono ?_; rintro e w' ⟨rfl, rfl⟩)
      | (go_at_call 59; refine (keepA_tab base g v ts a _ _ HT.out hn hbase).mono ?_; rintro e w2 ⟨he, q⟩; rw [← HRR.out] at he; subst he; have Q := hide q; clear q))
    go_ret
    rw [hc.out, if_neg (by simp [hf])]
    exact ⟨by rw [HRR.out]; rfl, Q.out⟩

theorem RDrop_tab (base g : Nat) (v : Value) (ts : List TrapT) (s : ByteArray) (w : World) (hT : RTab base w g v ts) (hn : ts.length ≤ 1000000) (hbase : base ≤ w.heap.size) (hs : s.size ≤ 9223372036854775807) :
    Calls Try.prog 37 #[.pointer (some ⟨g, 0, none⟩), .string s] w fun e w' => e = .returned (.int .i64 (dropP s ts).1) ∧ RMut base w w' g v (dropP s ts).2 := by
  have HT := hide hT
  have h0 := hT.c0
  have hc : Hid (dropP s ts = if nameB s = false then (6, ts) else (if (ts.filter fun x => !(x.nm.toList == s.toList)).length = ts.length then 3 else 0, ts.filter fun x => !(x.nm.toList == s.toList))) := rfl
  obtain ⟨r, hr⟩ : ∃ r : Int, r = if (ts.filter fun x => !(x.nm.toList == s.toList)).length = ts.length then 3 else 0 := ⟨_, rfl⟩
  have HRR := hide hr
  clear hT hr
  cases hf : nameB s with
  | false =>
    go_enter Try.func37, Try.ntmps37
    go_wp2_with (first
      | (go_at_call 47; refine (no_some _ _ _ h0).mono ?_; rintro e w' ⟨rfl, rfl⟩)
      | (go_at_call 58; refine (IsName_any _ _ hs).mono ?_; rintro e w2 ⟨rfl, rfl⟩))
    go_ret
    rw [hc.out, if_pos hf]
    exact ⟨rfl, RMut.same HT.out (Below.refl _ _)⟩
  | true =>
    go_enter Try.func37, Try.ntmps37
    go_wp2_with (first
      | (go_at_call 47; refine (no_some _ _ _ h0).mono ?_; rintro e w' ⟨rfl, rfl⟩)
      | (go_at_call 58; refine (IsName_any _ _ hs).mono ?_; rintro e w2 ⟨rfl, rfl⟩)
      | (go_at_call 59; refine (keepN_tab base g v ts 0 s _ HT.out hn hbase).mono ?_; rintro e w2 ⟨he, q⟩; rw [← HRR.out] at he; subst he; have Q := hide q; clear q))
    go_ret
    rw [hc.out, if_neg (by simp [hf])]
    exact ⟨by rw [HRR.out]; rfl, Q.out⟩
end Go.Proofs.Ytpndigonlgnbeaa
