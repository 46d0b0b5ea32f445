/- The trap table: Move, Plant. -/
import Derived.Test.YtpndigonlgnbeaaT13
set_option linter.unusedVariables false
set_option linter.unusedSimpArgs false
namespace Go.Proofs.Ytpndigonlgnbeaa
open Go.RowKit
set_option maxHeartbeats 1600000
set_option maxRecDepth 1000000

theorem row_at {w : World} {e : TypeId} {g0 c i : Nat} {m : List TrapT} {x : TrapT} (hR : trapK.RowAt e w (fun _ => False) g0 c m) (hx : m[i]? = some x) (a : Int) :
    trapK.RowAt e (w.setCell ⟨g0, i * 2, none⟩ (.int .i64 a)) (fun _ => False) g0 c (m.set i ⟨a, x.nm⟩) := by
  have hi := (List.getElem?_eq_some_iff.1 hx).1
  have h1 : trapK.RowAt e ((w.setCell ⟨g0, i * 2, none⟩ (.int .i64 a)).setCell ⟨g0, i * 2 + 1, none⟩ (.string x.nm)) (fun _ => False) g0 c (m.set i ⟨a, x.nm⟩) :=
    hR.set (i := i) (x := (⟨a, x.nm⟩ : TrapT)) (cs := [.int .i64 a, .string x.nm]) hi rfl (fun k h => h.elim)
  obtain ⟨-, hc, -, -⟩ := row_facts hR hx
  obtain ⟨cur, hb, -⟩ := hR
  rw [blk_cell hb] at hc
  refine h1.step ?_ (fun k h => h.elim)
  have h2 := blk_set hb (i * 2) (.int .i64 a)
  rw [h2, blk_set h2 (i * 2 + 1) (.string x.nm)]
  congr 2
  apply Array.ext_getElem?
  intro j
  simp only [Array.getElem?_setIfInBounds]
  have hsz := (Array.getElem?_eq_some_iff.1 hc).1
  by_cases h3 : i * 2 + 1 = j
  · subst h3
    have h4 := (Array.getElem?_eq_some_iff.1 hc).2
    simp [hsz, h4]
  · simp [h3]

/-- Move as the document says. -/
def moveP (s : ByteArray) (a : Int) (ts : List TrapT) : Int × List TrapT :=
  if farB a = true then (1, ts) else if nameB s = false then (6, ts) else
    match ts.findIdx? fun x => x.nm.toList == s.toList with
    | none => (3, ts)
    | some i => (0, ts.modify i fun x => ⟨a, x.nm⟩)
theorem moveP_far {s : ByteArray} {a : Int} {ts : List TrapT} (h : farB a = true) : moveP s a ts = (1, ts) := by unfold moveP; rw [if_pos h]
theorem moveP_name {s : ByteArray} {a : Int} {ts : List TrapT} (h : farB a = false) (h2 : nameB s = false) : moveP s a ts = (6, ts) := by unfold moveP; rw [if_neg (by simp [h]), if_pos h2]
theorem moveP_none {s : ByteArray} {a : Int} {ts : List TrapT} (h : farB a = false) (h2 : nameB s = true) (h3 : ∀ x ∈ ts, (x.nm.toList == s.toList) = false) : moveP s a ts = (3, ts) := by
  unfold moveP
  rw [if_neg (by simp [h]), if_neg (by simp [h2]), List.findIdx?_eq_none_iff.2 (fun x hx => h3 x hx)]
theorem moveP_some {s : ByteArray} {a : Int} {ts : List TrapT} {k : Nat} (h : farB a = false) (h2 : nameB s = true) (hk : k < ts.length) (h3 : (ts[k].nm.toList == s.toList) = true) (h4 : ∀ j (hj : j < k), ((ts[j]'(by omega)).nm.toList == s.toList) = false) :
    moveP s a ts = (0, ts.set k ⟨a, ts[k].nm⟩) := by
  unfold moveP
  have : (ts.findIdx? fun x => x.nm.toList == s.toList) = some k := by
    rw [List.findIdx?_eq_some_iff_getElem]
    exact ⟨hk, h3, fun j hj => by rw [h4 j hj]; simp⟩
  rw [if_neg (by simp [h]), if_neg (by simp [h2]), this]
  show (0, ts.modify k _) = _
  congr 1
  apply List.ext_getElem?
  intro j
  rw [List.getElem?_modify, List.getElem?_set]
  by_cases hj : k = j
  · subst hj; simp [List.getElem?_eq_getElem hk, hk]
  · simp [hj]

theorem Move_trap (base g : Nat) (v : Value) (ts : List TrapT) (s : ByteArray) (a : Int) (w : World) (hT : Tab base w g v ts) (hn : ts.length ≤ 1000000) (hbase : base ≤ w.heap.size) (hs : s.size ≤ 9223372036854775807) :
    Calls Try.prog 32 #[.pointer (some ⟨g, 0, none⟩), .string s, .int .i64 a] w fun e w' => e = .returned (.int .i64 (moveP s a ts).1) ∧ Mut base w w' g v (moveP s a ts).2 := by
  have hal : Below w.heap.size w (w.alloc (.cells #[.string s] 9)) := (Below.refl _ _).alloc (Nat.le_refl _) _
  have hT2 := hT.below hal
  have h1 := hT2.c1
  have HT := hide hT
  have HT2 := hide hT2
  have HAL := hide hal
  clear hT hT2 hal
  cases hf : farB a with
  | true =>
    rw [moveP_far hf]
    go_enter Try.func32, Try.ntmps32
    go_wp2_with (first
      | (go_at_call 23; refine (none_some _ _ _ h1).mono ?_; rintro e w' ⟨rfl, rfl⟩)
      | (go_at_call 49; refine (far_any _ _).mono ?_; rintro e w' ⟨rfl, rfl⟩))
    go_ret
    exact ⟨rfl, Mut.same HT.out HAL.out⟩
  | false =>
  cases hnm : nameB s with
  | false =>
    rw [moveP_name hf hnm]
    go_enter Try.func32, Try.ntmps32
    go_wp2_with (first
      | (go_at_call 23; refine (none_some _ _ _ h1).mono ?_; rintro e w' ⟨rfl, rfl⟩)
      | (go_at_call 49; refine (far_any _ _).mono ?_; rintro e w' ⟨rfl, rfl⟩)
      | (go_at_call 52; refine (named_any _ _ hs).mono ?_; rintro e w2 ⟨rfl, q⟩; have Q := hide q; clear q))
    go_ret
    exact ⟨rfl, Mut.same HT.out (below_self HAL.out Q.out)⟩
  | true =>
  obtain ⟨A, c, rfl, -, -, -, -, -⟩ := HT.out.own.form
  rcases idxI_cases (fun x : TrapT => x.nm.toList == s.toList) ts with ⟨hi, hall⟩ | ⟨k, hk, hi, hq, hno⟩
  · rw [moveP_none hf hnm hall]
    have HI := hide hi
    clear hi hall
    go_enter Try.func32, Try.ntmps32
    go_wp2_with (first
      | (go_at_call 23; refine (none_some _ _ _ h1).mono ?_; rintro e w' ⟨rfl, rfl⟩)
      | (go_at_call 49; refine (far_any _ _).mono ?_; rintro e w' ⟨rfl, rfl⟩)
      | (go_at_call 52; refine (named_any _ _ hs).mono ?_; rintro e w2 ⟨rfl, q⟩; have hT3 := HT2.out.below q; have c0 := hT3.c0; have HT3 := hide hT3; obtain ⟨A9, c9, e5, -, -, -, -, hrd⟩ := hT3.own.form; cases e5; have HRD := hide hrd; have QN := hide q; clear q hT3 hrd)
      | (go_at_call 48
         refine (IndexFunc_trap 55 #[.pointer (some ⟨w.heap.size, 0, none⟩)] (fun _ _ => rfl) (fun x => x.nm.toList == s.toList) A ts.length c ts _ (fun _ => False) _ HRD.out (by omega) ?_).mono ?_
         · intro W x hk
           exact move1_any x _ s W (box_cell ((Kept.of_below (S := fun _ => False) QN.out).trans (U := fun _ => False) hk (fun _ _ h => h.elim) (fun i hi h => h)) (by simp))
         rintro e w3 ⟨he, q⟩
         rw [HI.out] at he
         subst he
         have Q3 := hide q
         clear q))
    go_ret
    exact ⟨rfl, Mut.same HT.out (below_self (below_self HAL.out QN.out) Q3.out)⟩
  · rw [moveP_some hf hnm hk hq hno]
    obtain ⟨x, hx⟩ : ∃ x, x = ts[k] := ⟨_, rfl⟩
    rw [← hx]
    have hx' : ts[k]? = some x := by rw [hx]; exact List.getElem?_eq_getElem hk
    obtain ⟨gr, rfl, -, hgr, -⟩ := HT.out.own.rowAt (by omega)
    have hne : gr ≠ g := fun e => HT.out.ne (by rw [← e]; rfl)
    have HNE := hide hne
    have HI := hide hi
    have HX := hide hx'
    clear hi hno hx hx' hq hne
    go_enter Try.func32, Try.ntmps32
    go_wp2_with (first
      | (go_at_call 23; refine (none_some _ _ _ h1).mono ?_; rintro e w' ⟨rfl, rfl⟩)
      | (go_at_call 49; refine (far_any _ _).mono ?_; rintro e w' ⟨rfl, rfl⟩)
      | (go_at_call 52; refine (named_any _ _ hs).mono ?_; rintro e w2 ⟨rfl, q⟩; have hT3 := HT2.out.below q; have c0 := hT3.c0; have HT3 := hide hT3; obtain ⟨A9, c9, e5, -, -, -, -, hrd⟩ := hT3.own.form; cases e5; have HRD := hide hrd; have QN := hide q; clear q hT3 hrd)
      | (go_at_call 48
         refine (IndexFunc_trap 55 #[.pointer (some ⟨w.heap.size, 0, none⟩)] (fun _ _ => rfl) (fun x => x.nm.toList == s.toList) _ ts.length c ts _ (fun _ => False) _ HRD.out (by omega) ?_).mono ?_
         · intro W x hk
           exact move1_any x _ s W (box_cell ((Kept.of_below (S := fun _ => False) QN.out).trans (U := fun _ => False) hk (fun _ _ h => h.elim) (fun i hi h => h)) (by simp))
         rintro e w3 ⟨he, q⟩
         rw [HI.out] at he
         subst he
         have hT4 := HT3.out.below q
         have d0 := hT4.c0
         obtain ⟨gr', e6, -, -, hrow⟩ := hT4.own.rowAt (by omega)
         cases e6
         obtain ⟨d1, -, d2, -⟩ := row_facts hrow HX.out
         have HT4 := hide hT4
         have HROW := hide hrow
         have Q3 := hide q
         clear q hT4 hrow))
    go_ret
    have hb : Below w.heap.size w w3 := below_self (below_self HAL.out QN.out) Q3.out
    have hrow := row_at HROW.out HX.out a
    refine ⟨rfl, _, ⟨blk_far HT4.out.blk (fun e => HNE.out e.symm) _, HT.out.hg, ?_⟩, (Kept.of_below hb).setCell (.inl (.inr rfl)) _, fun j hj => .inl hj⟩
    have ho := hrow.own hgr
    rw [List.length_set] at ho
    exact ho

/-- Plant as the document says. -/
def plantP (a : Int) (s : ByteArray) (ts : List TrapT) : Int × List TrapT :=
  if farB a = true then (1, ts) else if nameB s = false then (6, ts) else if 100 ≤ ts.length then (9, ts) else (0, ts ++ [⟨a, s⟩])
theorem Plant_trap (base g : Nat) (v : Value) (ts : List TrapT) (a : Int) (s : ByteArray) (w : World) (hT : Tab base w g v ts) (hn : ts.length ≤ 1000000) (hbase : base ≤ w.heap.size) (hs : s.size ≤ 9223372036854775807) :
    Calls Try.prog 30 #[.pointer (some ⟨g, 0, none⟩), .int .i64 a, .string s] w fun e w' => e = .returned (.int .i64 (plantP a s ts).1) ∧ Mut base w w' g v (plantP a s ts).2 := by
  have h1 := hT.c1
  have HT := hide hT
  clear hT
  cases hf : farB a with
  | true =>
    have e : plantP a s ts = (1, ts) := by unfold plantP; rw [if_pos hf]
    rw [e]
    clear e
    go_enter Try.func30, Try.ntmps30
    go_wp2_with (first
      | (go_at_call 23; refine (none_some _ _ _ h1).mono ?_; rintro e w' ⟨rfl, rfl⟩)
      | (go_at_call 49; refine (far_any _ _).mono ?_; rintro e w' ⟨rfl, rfl⟩))
    go_ret
    exact ⟨rfl, Mut.same HT.out (Below.refl _ _)⟩
  | false =>
  cases hnm : nameB s with
  | false =>
    have e : plantP a s ts = (6, ts) := by unfold plantP; rw [if_neg (by simp [hf]), if_pos hnm]
    rw [e]
    clear e
    go_enter Try.func30, Try.ntmps30
    go_wp2_with (first
      | (go_at_call 23; refine (none_some _ _ _ h1).mono ?_; rintro e w' ⟨rfl, rfl⟩)
      | (go_at_call 49; refine (far_any _ _).mono ?_; rintro e w' ⟨rfl, rfl⟩)
      | (go_at_call 52; refine (named_any _ _ hs).mono ?_; rintro e w2 ⟨rfl, q⟩; have Q := hide q; clear q))
    go_ret
    exact ⟨rfl, Mut.same HT.out Q.out⟩
  | true =>
  obtain ⟨A, c, rfl, -, -, -, -, -⟩ := HT.out.own.form
  by_cases hfull : 100 ≤ ts.length
  · have e : plantP a s ts = (9, ts) := by unfold plantP; rw [if_neg (by simp [hf]), if_neg (by simp [hnm]), if_pos hfull]
    rw [e]
    clear e
    go_enter Try.func30, Try.ntmps30
    go_wp2_with (first
      | (go_at_call 23; refine (none_some _ _ _ h1).mono ?_; rintro e w' ⟨rfl, rfl⟩)
      | (go_at_call 49; refine (far_any _ _).mono ?_; rintro e w' ⟨rfl, rfl⟩)
      | (go_at_call 52; refine (named_any _ _ hs).mono ?_; rintro e w2 ⟨rfl, q⟩; have c0 := (HT.out.below q).c0; have Q := hide q; clear q))
    go_ret
    exact ⟨rfl, Mut.same HT.out Q.out⟩
  · have e : plantP a s ts = (0, ts ++ [⟨a, s⟩]) := by unfold plantP; rw [if_neg (by simp [hf]), if_neg (by simp [hnm]), if_neg hfull]
    rw [e]
    clear e
    go_enter Try.func30, Try.ntmps30
    go_wp2_with (first
      | (go_at_call 23; refine (none_some _ _ _ h1).mono ?_; rintro e w' ⟨rfl, rfl⟩)
      | (go_at_call 49; refine (far_any _ _).mono ?_; rintro e w' ⟨rfl, rfl⟩)
      | (go_at_call 52; refine (named_any _ _ hs).mono ?_; rintro e w2 ⟨rfl, q⟩; have hT2 := HT.out.below q; have c0 := hT2.c0; have HT2 := hide hT2; have Q := hide q; have hs1 := Nat.le_trans hbase q.size; clear q hT2)
      | (at_builtin
         refine wpList_append_one_at (ok := fun _ => False) (base := base) w2 trapK rfl _ _ 27 rfl 33 _ 24 Try.underlying27 info_trap rfl (by decide) (by decide) (.slice A ts.length c) ts rfl HT2.out.own (⟨a, s⟩ : TrapT) [.int .i64 a, .string s] _ rfl rfl rfl (fun k h => h.elim) (by omega) hs1 ?_
         intro v3 w3 hown3 hg3 hat3
         obtain ⟨A3, c3, rfl, -, -, -, -, -⟩ := Kind.Own.form hown3
         have hb3 := blk_grown HT2.out.blk hg3 (fun e => HT2.out.ne e.symm)
         have z0 : w3.cell? ⟨g, 0, none⟩ = some (.slice A ts.length c) := by rw [blk_cell hb3]; rfl
         have z1 : w3.frozen? ⟨g, 0, none⟩ = false := blk_frozen hb3
         have HB3 := hide hb3
         have HO3 := hide hown3
         have HG := hide hg3
         have HAT := hide hat3
         clear hown3 hg3 hat3 hb3))
    go_ret
    have hat : ∀ k, (Value.slice A3 (ts ++ [(⟨a, s⟩ : TrapT)]).length c3).ownBlock = some k → (Value.slice A ts.length c).ownBlock = some k ∨ w.heap.size ≤ k := by
      intro k hk
      rcases HAT.out with h | ⟨b, h, hb⟩
      · exact .inl (h ▸ hk)
      · rw [h] at hk
        injection hk with hk
        subst hk
        exact .inr (Nat.le_trans Q.out.size (Nat.le_of_lt hb))
    have hne : ∀ k, (Value.slice A3 (ts ++ [(⟨a, s⟩ : TrapT)]).length c3).ownBlock = some k → k ≠ g := by
      rintro k hk rfl
      rcases hat _ hk with h | h
      · exact HT.out.ne h
      · have := HT.out.lt; omega
    have hlen : (ts ++ [(⟨a, s⟩ : TrapT)]).length = ts.length + 1 := by simp
    have ho3 := HO3.out
    rw [hlen] at hat hne ho3
    refine ⟨rfl, _, ⟨blk_set HB3.out 0 _, HT.out.hg, ?_⟩, ?_, hat⟩
    · exact ho3.step (fun k e => Below.heap_setCell w3 ⟨g, 0, none⟩ _ k (hne k e)) (fun k h => h.elim)
    · exact ((Kept.of_below (S := fun _ => False) Q.out).trans (Kept.of_grown HG.out) (U := fun k => k = g ∨ (Value.slice A ts.length c).ownBlock = some k) (fun _ _ h => h.elim) (fun i hi h => .inr h)).setCell (.inl (.inl rfl)) _
end Go.Proofs.Ytpndigonlgnbeaa
