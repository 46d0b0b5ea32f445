import Derived.Test.YtekkjieoikgpmaaE27
import Derived.Test.YtekkjieoikgpmaaE47
import Derived.Test.YtekkjieoikgpmaaE48
import Derived.Test.YtekkjieoikgpmaaE28
import Derived.Test.YtekkjieoikgpmaaE35
import Derived.Test.YtekkjieoikgpmaaBase3
import Derived.Test.YtekkjieoikgpmaaRows
import Derived.ProofKit
import Derived.Deep.Slices
import Derived.Deep.Fields
import Derived.ChangeMaps5
import Derived.Lib.SmallJoins
section
/- What big says: that deeds are few and their rows short. -/
set_option linter.unusedVariables false
set_option linter.unusedSimpArgs false
namespace Go.Proofs.Ytekkjieoikgpmaa
open Go.RowKit
set_option maxHeartbeats 3200000
set_option maxRecDepth 1000000
def BigEnd (l : List DeedE) (e : Ending) : Prop := ∃ r : Bool, e = .returned (.bool r) ∧ (r = false → l.length ≤ 80 ∧ ∀ z, z ∈ l → z.env.row.length + z.env.stops.length < 2000)
theorem big_says (A : Option Addr) (n c : Nat) (l : List DeedE) (ok : Nat → Prop) (w : World) (hr : deedK.Rd w ok A n l) (hn : n ≤ 9223372036854775807) (hl : ∀ z, z ∈ l → z.env.row.length ≤ 10000000000000 ∧ z.env.stops.length ≤ 10000000000000) :
    Calls Try.prog 8 #[.slice A n c] w fun e w' => BigEnd l e ∧ Below w.heap.size w w' := by
  have HR := hide hr
  have hln : l.length = n := hr.1
  have HLN := hide hln
  have HL := hide hl
  clear hr hln hl
  go_enter Try.func8, Try.ntmps8
  go_wp2_with fail
  go_loopw [3, 4] (fun t3 t4 wr => ∃ (m i : Nat), t3 = .int .i64 m ∧ t4 = .int .i64 i ∧ i ≤ n ∧ m ≤ 30000000000000 ∧ Hid (∀ z, z ∈ l.take i → z.env.row.length + z.env.stops.length ≤ m) ∧ Hid (Below w.heap.size w wr)) (fun _ t4 _ => n - (intOf t4).toNat)
  case atStart => exact ⟨0, 0, rfl, rfl, Nat.zero_le _, Nat.zero_le _, hide (fun z hz => by simp at hz), hide (Below.refl _ _)⟩
  case round =>
    obtain ⟨m, i, rfl, rfl, hi, hm3, HS, HB⟩ := hrel
    by_cases hlt : i < n ∧ m < 2000
    · obtain ⟨hlt, hm⟩ := hlt
      have hmi : (m : Int) < 2000 := by omega
      obtain ⟨hil, -⟩ : i < l.length ∧ True := ⟨by have := HLN.out; omega, trivial⟩
      obtain ⟨b, off, cs, rfl, hbl, ⟨ec, rfl, h1, ⟨u, v, rfl, ⟨A1, c1, rfl, -, -, -⟩, ⟨A2, c2, rfl, -, -, -⟩⟩⟩, hcell⟩ := (HR.out.below HB.out).at_ hil
      have hxl := HL.out _ (List.getElem_mem hil)
      have htk : l.take (i + 1) = l.take i ++ [l[i]] := List.take_succ_eq_append_getElem hil
      obtain ⟨x, hx⟩ : ∃ x, x = l[i] := ⟨_, rfl⟩
      rw [← hx] at hxl htk hcell
      have HTK := hide htk
      clear hx htk
      have p3 : wr.cell? ⟨b, off + i * 43 + 24, none⟩ = some (.slice A1 x.env.stops.length c1) := hcell 24 _ rfl
      have p4 : wr.cell? ⟨b, off + i * 43 + 38, none⟩ = some (.slice A2 x.env.row.length c2) := hcell 38 _ rfl
      have C3 := cell_after p3
      have C4 := cell_after p4
      clear hcell p3 p4
      go_upto_region 5 with fail
      have jz1 : (i : Int) < (n : Int) := by omega
      refine wp_region_after (by kernel_rfl) (by kernel_rfl) ?_
      repeat (go_big_quiet_step (fail))
      refine wpQuiet_nil ?_
      intro _ hw'
      obtain ⟨q, rfl⟩ := hw'
      have HQ := hide q.h
      clear C3 C4
      generalize q.W = wq at HQ ⊢
      go_wp2_with fail
      go_roundw
      case rel => exact ⟨m + (x.env.row.length + x.env.stops.length), i + 1, by first | go_num | (congr 1; omega), by go_num, by omega, by omega, hide (fun z hz => by
        rw [HTK.out] at hz
        rcases List.mem_append.1 hz with hz | hz
        · have := HS.out z hz; omega
        · rw [List.mem_singleton.1 hz]; omega), hide (below_self HB.out HQ.out)⟩
      case measure => simp [intOf]; omega
    · by_cases hlt2 : i < n
      · have hm : ¬ (m : Int) < 2000 := fun h => hlt ⟨hlt2, by omega⟩
        have hm2 : (2000 : Int) ≤ (m : Int) := by omega
        clear hlt
        go_wp2_with fail
        go_ret
        exact ⟨⟨true, rfl, fun h => by cases h⟩, HB.out⟩
      · clear hlt
        by_cases hm : (2000 : Int) ≤ (m : Int)
        · go_wp2_with fail
          go_ret
          exact ⟨⟨true, rfl, fun h => by cases h⟩, HB.out⟩
        · have HS2 := hide (show ∀ z, z ∈ l → z.env.row.length + z.env.stops.length < 2000 from fun z hz => by
            have := HS.out z (by rw [List.take_of_length_le (by have := HLN.out; omega)]; exact hz)
            omega)
          by_cases h80 : 80 < (n : Int)
          · go_wp2_with fail
            go_ret
            exact ⟨⟨true, rfl, fun h => by cases h⟩, HB.out⟩
          · go_wp2_with fail
            go_ret
            exact ⟨⟨false, rfl, fun _ => ⟨by have := HLN.out; omega, HS2.out⟩⟩, HB.out⟩
/-- Sizes that an argument's memory lets. -/
def EnvT.light (x : EnvT) : Prop := x.stops.length ≤ 10000000000000 ∧ x.row.length ≤ 10000000000000 ∧ ∀ y ∈ x.row, y.f6.length ≤ 17592186044416
theorem light_small {x : EnvT} (h : x.light) (h2 : x.row.length + x.stops.length < 2000) : x.small := ⟨by omega, by omega, h.2.2⟩
end Go.Proofs.Ytekkjieoikgpmaa
end
section
/- The law EnvFirst: its walk. -/
set_option linter.unusedVariables false
set_option linter.unusedSimpArgs false
namespace Go.Proofs.Ytekkjieoikgpmaa
open Go.RowKit
set_option maxHeartbeats 12800000
set_option maxRecDepth 1000000

/-- A slice of two elements that are written out whole. -/
theorem foldl_off (off : Nat) (l : List Value) : ∀ (k : Nat) (arr : Array Value), (l.zipIdx k).foldl (fun cs (p : Value × Nat) => cs.setIfInBounds (off + p.2) p.1) arr = (l.zipIdx (off + k)).foldl (fun cs (p : Value × Nat) => cs.setIfInBounds p.2 p.1) arr := by
  induction l with
  | nil => intro k arr; rfl
  | cons a l ih =>
    intro k arr
    rw [List.zipIdx_cons, List.zipIdx_cons, List.foldl_cons, List.foldl_cons, ih]
    rfl
theorem fill_two (n : Nat) (c0 c1 arr : Array Value) (h0 : c0.size = n) (h1 : c1.size = n) (ha : arr.size = 2 * n) : Instr.fill (fun i => some (i * n, n)) arr [(0, Value.agg c0), (1, Value.agg c1)] = some (c0 ++ c1) := by
  have e : ∀ (off : Nat) (c arr : Array Value), c.zipIdx.foldl (fun cs (p : Value × Nat) => cs.setIfInBounds (off + p.2) p.1) arr = (c.toList.zipIdx off).foldl (fun cs (p : Value × Nat) => cs.setIfInBounds p.2 p.1) arr := fun off c arr => by
    rw [← Array.foldl_toList, Array.toList_zipIdx, foldl_off, Nat.add_zero]
  have n0 : (decide (c0.size ≠ n) || decide (0 * n + c0.size > arr.size)) = false := by rw [ha, h0]; simp; omega
  have s1 : ∀ (off : Nat) (c arr : Array Value), (c.zipIdx.foldl (fun cs (p : Value × Nat) => cs.setIfInBounds (off + p.2) p.1) arr).size = arr.size := fun off c arr => by
    rw [e]
    generalize c.toList.zipIdx off = L
    induction L generalizing arr with
    | nil => rfl
    | cons a L ih => rw [List.foldl_cons, ih, Array.size_setIfInBounds]
  have n1 : (decide (c1.size ≠ n) || decide (1 * n + c1.size > (c0.zipIdx.foldl (fun cs (p : Value × Nat) => cs.setIfInBounds (0 * n + p.2) p.1) arr).size)) = false := by rw [s1, ha, h1]; simp; omega
  show (if (decide (c0.size ≠ n) || decide (0 * n + c0.size > arr.size)) = true then none else (if (decide (c1.size ≠ n) || decide (1 * n + c1.size > (c0.zipIdx.foldl (fun cs (p : Value × Nat) => cs.setIfInBounds (0 * n + p.2) p.1) arr).size)) = true then none else some (c1.zipIdx.foldl (fun cs (p : Value × Nat) => cs.setIfInBounds (1 * n + p.2) p.1) (c0.zipIdx.foldl (fun cs (p : Value × Nat) => cs.setIfInBounds (0 * n + p.2) p.1) arr)))) = some (c0 ++ c1)
  rw [n0, n1]
  simp only [Bool.false_eq_true, if_false]
  congr 1
  apply Array.ext_getElem?
  intro i
  rw [e, fold_get, e, fold_get]
  have hsz : ((c0.toList.zipIdx (0 * n)).foldl (fun cs (p : Value × Nat) => cs.setIfInBounds p.2 p.1) arr).size = arr.size := by rw [← e, s1]
  rw [hsz, Nat.zero_mul, Nat.one_mul]
  have l0 : c0.toList.length = c0.size := Array.length_toList
  have l1 : c1.toList.length = c1.size := Array.length_toList
  by_cases hi : i < n
  · rw [if_neg (by omega), if_pos (by omega), Nat.sub_zero, Array.getElem?_append_left (by omega), Array.getElem?_toList]
  · by_cases h2 : i < 2 * n
    · rw [if_pos (by omega), Array.getElem?_append_right (by omega), Array.getElem?_toList, h0]
    · rw [if_neg (by omega), if_neg (by omega), Array.getElem?_eq_none (by omega), Array.getElem?_eq_none (by rw [Array.size_append]; omega)]
theorem run_build_two {P : Program} (w : World) (t e : TypeId) (z : Value) (n : Nat) (c0 c1 : List Value) (ht : P.underlying t = some (.slice e)) (hi : (P.info? e).map (fun i => (i.zero, i.size)) = some (some z, n)) (hz : z.cells.size = n) (h0 : 0 < n) (hn : 2 * n ≤ 16777216) (hc : c0.length = n) (hd : c1.length = n) :
    (Instr.buildSlice t 2 #[(0, .agg c0.toArray), (1, .agg c1.toArray)]).run P w = .ok (.slice (some ⟨w.heap.size, 0, none⟩) 2 2) (w.alloc (.cells (c0 ++ c1).toArray e)) := by
  rw [← List.append_toArray]
  obtain ⟨hzv, hsz⟩ := zero_of_info hi
  obtain ⟨i0, hi0, hii⟩ := Option.map_eq_some_iff.1 hsz
  have hce : P.cellsOf e = n := by simp [Program.cellsOf, hi0, hii]
  have hfill := fill_two n c0.toArray c1.toArray ((Array.range (2 * n)).map fun x => z.cells[x % z.cells.size]!) (by simpa using hc) (by simpa using hd) (by simp)
  simp only [Instr.buildSlice, Sem.run_bind, run_underlying ht, Result.andThen_ok, run_sizeOf w hi0, hce]
  rw [if_neg (by omega), if_neg (by omega)]
  simp only [Sem.run_bind, hzv, Result.andThen_ok, Sem.run_pure, hfill]
  rfl
theorem rd_two {α : Type} {d : Kind α} {w : World} {ok : Nat → Prop} {x y : α} {c0 c1 : List Value} {e : TypeId} (hx : d.K (w.alloc (.cells (c0 ++ c1).toArray e)) ok x c0) (hy : d.K (w.alloc (.cells (c0 ++ c1).toArray e)) ok y c1) (hok : ok w.heap.size) : d.Rd (w.alloc (.cells (c0 ++ c1).toArray e)) ok (some ⟨w.heap.size, 0, none⟩) 2 [x, y] :=
  rd_block (l := [x, y]) (blk_new w _) (by simpa using ((Kind.Reps.nil d _ ok).snoc hx).snoc hy) hok
theorem wpList_bs2 {P : Program} {ops : Array Oper} {rest : List Oper} {o : Oper} {a : Act} {w w' : World} {Q : Exit → Act → World → Prop} (hg : o.guard = none) (t : TypeId) (x y : Operand) (ho : o.op = .buildSlice t 2 #[(0, x), (1, y)]) (xv yv v : Value) (hx : a.eval x = xv) (hy : a.eval y = yv)
    (hrun : (Instr.buildSlice t 2 #[(0, xv), (1, yv)]).run P w = .ok v w') (h : wpList P ops Q rest (a.put o.dst v) w') : wpList P ops Q (o :: rest) a w :=
  wpList_plain hg fun K hK => by
    unfold Oper.wp execOp
    simp only [ho, List.map_toArray, List.map_cons, List.map_nil, hx, hy, Sem.run_bind, hrun, Result.andThen_ok]
    exact hK _ _ h
theorem EnvFirst_any (a b : EnvT) (name : ByteArray) (ua va ub vb : Value) (w : World) (hka : envK.K w (fun _ => True) a (a.cells ua va)) (hkb : envK.K w (fun _ => True) b (b.cells ub vb)) (hla : a.light) (hlb : b.light) (hta : a.strs) (hnm : name.size ≤ 9223372036854775807) :
    Calls Try.prog 3 #[.agg (a.cells ua va).toArray, .agg (b.cells ub vb).toArray, .string name] w fun e w' => e = .returned (.bool true) ∧ Below w.heap.size w w' := by
  have HKA := hide hka
  have HKB := hide hkb
  have HLA := hide hla
  have HLB := hide hlb
  have HLL := hide (show ∀ z : DeedE, z ∈ [(⟨0, 0, ⟨#[]⟩, a⟩ : DeedE), ⟨0, 0, ⟨#[]⟩, b⟩] → z.env.row.length ≤ 10000000000000 ∧ z.env.stops.length ≤ 10000000000000 from fun z hz => by
    rcases List.mem_cons.1 hz with rfl | hz
    · exact ⟨hla.2.1, hla.1⟩
    · rw [List.mem_singleton.1 hz]
      exact ⟨hlb.2.1, hlb.1⟩)
  have HTA := hide hta
  have HNM := hide hnm
  have HVF := hide (show validE firstT = true by kernel_rfl)
  obtain ⟨qv, hqv⟩ : ∃ q, validE a = q := ⟨_, rfl⟩
  obtain ⟨qs, hqs⟩ : ∃ q, sameE a b = q := ⟨_, rfl⟩
  have HQV := hide hqv
  have HQS := hide hqs
  clear hka hkb hla hlb hta hnm hqv hqs
  go_enter Try.func3, Try.ntmps3
  go_upto_region 1 with fail
  refine wp_two ?_
  intro W0 hb1 hb2 hbel hsz
  have HBA := hide hb1
  have HBB := hide hb2
  have HBEL := hide hbel
  have hal : Below W0.heap.size W0 (W0.alloc (.cells (DeedE.cells ⟨0, 0, ⟨#[]⟩, a⟩ (a.cells ua va) ++ DeedE.cells ⟨0, 0, ⟨#[]⟩, b⟩ (b.cells ub vb)).toArray 32)) := (Below.refl _ _).alloc (Nat.le_refl _) _
  have hrd : deedK.Rd (W0.alloc (.cells (DeedE.cells ⟨0, 0, ⟨#[]⟩, a⟩ (a.cells ua va) ++ DeedE.cells ⟨0, 0, ⟨#[]⟩, b⟩ (b.cells ub vb)).toArray 32)) (fun _ => True) (some ⟨W0.heap.size, 0, none⟩) 2 [⟨0, 0, ⟨#[]⟩, a⟩, ⟨0, 0, ⟨#[]⟩, b⟩] := by
    have ka := Kind.below HKA.out (hbel.trans (hal.mono hbel.size))
    have kb := Kind.below HKB.out (hbel.trans (hal.mono hbel.size))
    exact rd_two ⟨_, rfl, Nat.zero_le _, ka⟩ ⟨_, rfl, Nat.zero_le _, kb⟩ trivial
  have HRD := hide hrd
  have HAL := hide (hbel.trans (hal.mono hbel.size))
  have HBA1 := hide (blk_below hb1 hal (blk_lt hb1))
  have HBB1 := hide (blk_below hb2 hal (blk_lt hb2))
  have HBS := hide (run_build_two W0 33 32 _ 43 (DeedE.cells ⟨0, 0, ⟨#[]⟩, a⟩ (a.cells ua va)) (DeedE.cells ⟨0, 0, ⟨#[]⟩, b⟩ (b.cells ub vb)) Try.underlying33 zero_deed rfl (by decide) (by decide) rfl rfl)
  clear hal hrd hb1 hb2 hbel hsz
  go_upto_if 14 with (first
    | refine wpList_load_row rfl 29 (Operand.tmp 3) rfl w.heap.size rfl 29 _ (0, 0) _ HBA.out Try.underlying29 rfl (by rw [size_env]; rfl) ?_
    | refine wpList_load_row rfl 29 (Operand.tmp 4) rfl (w.heap.size + 1) rfl 29 _ (0, 0) _ HBB.out Try.underlying29 rfl (by rw [size_env]; rfl) ?_
    | refine wpList_built rfl 32 #[(3, .tmp 9)] (DeedE.cells ⟨0, 0, ⟨#[]⟩, a⟩ (a.cells ua va)).toArray rfl (by kernel_rfl) ?_
    | refine wpList_built rfl 32 #[(3, .tmp 11)] (DeedE.cells ⟨0, 0, ⟨#[]⟩, b⟩ (b.cells ub vb)).toArray rfl (by kernel_rfl) ?_
    | refine wpList_bs2 rfl 33 (Operand.tmp 10) (Operand.tmp 12) rfl (.agg (DeedE.cells ⟨0, 0, ⟨#[]⟩, a⟩ (a.cells ua va)).toArray) (.agg (DeedE.cells ⟨0, 0, ⟨#[]⟩, b⟩ (b.cells ub vb)).toArray) _ rfl rfl HBS.out ?_
    | (go_at_call 8
       refine (big_says _ 2 2 _ _ _ HRD.out (by omega) HLL.out).mono ?_
       rintro e w0 ⟨⟨r, rfl, hbg⟩, q⟩
       have HBG := hide hbg
       have HBEL0 := hide (HAL.out.trans (q.mono HAL.out.size))
       have HBA0 := hide (blk_below HBA1.out q (blk_lt HBA1.out))
       have HBB0 := hide (blk_below HBB1.out q (blk_lt HBB1.out))
       clear q hbg))
  clear HBA HBB HBA1 HBB1 HAL HRD HBS HBEL
  cases r with
  | true =>
    go_wp2_with (go_at_call 9; refine (sane_any _).mono ?_; rintro e w9 ⟨rfl, q⟩; have HQ := hide (below_self HBEL0.out q); clear q)
    go_ret
    exact ⟨rfl, HQ.out⟩
  | false =>
    have HSA := hide (light_small HLA.out ((HBG.out rfl).2 _ (.head _)))
    have HSB := hide (light_small HLB.out ((HBG.out rfl).2 _ (.tail _ (.head _))))
    clear HBG HLL
    go_upto_region 3 with fail
    have HSS := hide (show ∀ W, Below w0.heap.size w0 W → (fun w' => w'.heap[w.heap.size]? = some (.cells (a.cells ua va).toArray 29 (0, 0)) ∧ w'.heap[w.heap.size + 1]? = some (.cells (b.cells ub vb).toArray 29 (0, 0))) W from fun W hW => ⟨blk_below HBA0.out hW (blk_lt HBA0.out), blk_below HBB0.out hW (blk_lt HBB0.out)⟩)
    have HW0 := hide (Below.refl w0.heap.size w0).drew
    refine wp_region_held_drew (S := (fun w' => w'.heap[w.heap.size]? = some (.cells (a.cells ua va).toArray 29 (0, 0)) ∧ w'.heap[w.heap.size + 1]? = some (.cells (b.cells ub vb).toArray 29 (0, 0)))) (by kernel_rfl) (HSS.out _ HW0.out) (fun hHeld => ?_)
    refine wpAnyH_ready (rs := [0]) (by kernel_rfl) (by simp) (AllReadyH.cons rfl (fun K hK => ?_) AllReadyH.nil)
    go_simp
    refine (First_any _).mono ?_
    rintro e w1 ⟨rfl, q⟩
    have HW1 := hide (below_self HW0.out q)
    have HS1 := hide (HSS.out _ HW1.out)
    clear q
    go_wp2_with fail
    refine hK.out _ _ HS1.out (fun hHeld2 => ?_)
    clear hK K hHeld
    have hHeld := hHeld2
    clear hHeld2
    try simp only [Act.put, List.setIfInBounds_toArray, List.set_cons_zero, List.set_cons_succ]
    refine wpAnyH_ready (rs := [1]) (by kernel_rfl) (by simp) (AllReadyH.cons rfl (fun K hK => ?_) AllReadyH.nil)
    go_simp
    refine (as_any firstT (.slice none 0 0) (.slice none 0 0) (fun _ => True) _ (Kind.Sl.nil _ _ _) ⟨_, _, _, rfl⟩ (by decide)).mono ?_
    rintro e w2 ⟨u2, rfl, hu2, q⟩
    have HU2 := hide hu2
    clear hu2
    have HW2 := hide (below_self HW1.out q)
    have HS2 := hide (HSS.out _ HW2.out)
    clear q
    go_wp2_with fail
    refine hK.out _ _ HS2.out (fun hHeld2 => ?_)
    clear hK K hHeld
    have hHeld := hHeld2
    clear hHeld2
    try simp only [Act.put, List.setIfInBounds_toArray, List.set_cons_zero, List.set_cons_succ]
    refine wpAnyH_ready (rs := [2]) (by kernel_rfl) (by simp) (AllReadyH.cons rfl (fun K hK => ?_) AllReadyH.nil)
    go_simp
    refine (refFirst_any _).mono ?_
    rintro e w3 ⟨rfl, q⟩
    have HU3 := hide (HU2.out.below q)
    have HW3 := hide (below_self HW2.out q)
    have HS3 := hide (HSS.out _ HW3.out)
    clear q
    go_wp2_with fail
    refine hK.out _ _ HS3.out (fun hHeld2 => ?_)
    clear hK K hHeld
    have hHeld := hHeld2
    clear hHeld2
    try simp only [Act.put, List.setIfInBounds_toArray, List.set_cons_zero, List.set_cons_succ]
    refine wpAnyH_ready (rs := [3]) (by kernel_rfl) (by simp) (AllReadyH.cons rfl (fun K hK => ?_) AllReadyH.nil)
    go_simp
    refine (refSame16_any firstT firstT _ _ _ _ _ ⟨u2, _, rfl, HU3.out, Kind.Sl.nil _ _ _⟩ (first_K _ (fun _ => True)) first_small).mono ?_
    rw [sameE_self]
    rintro e w4 ⟨rfl, q⟩
    have HW4 := hide (below_self HW3.out q)
    have HS4 := hide (HSS.out _ HW4.out)
    clear q
    go_wp2_with fail
    refine hK.out _ _ HS4.out (fun hHeld2 => ?_)
    clear hK K hHeld
    have hHeld := hHeld2
    clear hHeld2
    try simp only [Act.put, List.setIfInBounds_toArray, List.set_cons_zero, List.set_cons_succ]
    refine wpAnyH_take (i := 4) (v := ?_) rfl (by kernel_rfl) (by kernel_rfl) (by kernel_rfl) (fun _ _ _ h => h) (Or.inl ⟨by rfl, ?_⟩) (by assumption) ?_
    rotate_left
    · intro wq hSw
      clear hSw
      go_simp
      try with_reducible rfl
    simp only [Act.put, List.setIfInBounds_toArray, List.set_cons_zero, List.set_cons_succ]
    refine wpAnyH_take (i := 5) (v := ?_) rfl (by kernel_rfl) (by kernel_rfl) (by kernel_rfl) (fun _ _ _ h => h) (Or.inl ⟨by rfl, ?_⟩) (by assumption) ?_
    rotate_left
    · intro wq hSw
      clear hSw
      go_simp
      try with_reducible rfl
    simp only [Act.put, List.setIfInBounds_toArray, List.set_cons_zero, List.set_cons_succ]
    refine wpAnyH_ready (rs := [6]) (by kernel_rfl) (by simp) (AllReadyH.cons rfl (fun K hK => ?_) AllReadyH.nil)
    go_simp
    refine (First_any _).mono ?_
    rintro e w5 ⟨rfl, q⟩
    have HW5 := hide (below_self HW4.out q)
    have HS5 := hide (HSS.out _ HW5.out)
    clear q
    go_wp2_with fail
    refine hK.out _ _ HS5.out (fun hHeld2 => ?_)
    clear hK K hHeld
    have hHeld := hHeld2
    clear hHeld2
    try simp only [Act.put, List.setIfInBounds_toArray, List.set_cons_zero, List.set_cons_succ]
    refine wpAnyH_ready (rs := [7]) (by kernel_rfl) (by simp) (AllReadyH.cons rfl (fun K hK => ?_) AllReadyH.nil)
    go_simp
    refine (Valid_env firstT _ _ _ (first_K _ (fun _ => True)) first_small).mono ?_
    rw [HVF.out]
    rintro e w6 ⟨rfl, q⟩
    have HW6 := hide (below_self HW5.out q)
    have HS6 := hide (HSS.out _ HW6.out)
    clear q
    go_wp2_with fail
    refine hK.out _ _ HS6.out (fun hHeld2 => ?_)
    clear hK K hHeld
    have hHeld := hHeld2
    clear hHeld2
    try simp only [Act.put, List.setIfInBounds_toArray, List.set_cons_zero, List.set_cons_succ]
    refine wpAnyH_take (i := 8) (v := ?_) rfl (by kernel_rfl) (by kernel_rfl) (by kernel_rfl) (fun _ _ _ h => h) (Or.inl ⟨by rfl, ?_⟩) (by assumption) ?_
    rotate_left
    · intro wq hSw
      clear hSw
      go_simp
      try with_reducible rfl
    simp only [Act.put, List.setIfInBounds_toArray, List.set_cons_zero, List.set_cons_succ]
    refine wpAnyH_take (i := 9) (v := ?_) rfl (by kernel_rfl) (by kernel_rfl) (by kernel_rfl) (fun _ _ _ h => h) (Or.inl ⟨by rfl, ?_⟩) (by assumption) ?_
    rotate_left
    · intro wq hSw
      clear hSw
      go_simp
      try with_reducible rfl
    simp only [Act.put, List.setIfInBounds_toArray, List.set_cons_zero, List.set_cons_succ]
    refine wpAnyH_take (i := 10) (v := ?_) rfl (by kernel_rfl) (by kernel_rfl) (by kernel_rfl) (fun _ _ _ h => h) (Or.inl ⟨by rfl, ?_⟩) (by assumption) ?_
    rotate_left
    · intro wq hSw
      clear hSw
      go_simp
      try with_reducible rfl
    simp only [Act.put, List.setIfInBounds_toArray, List.set_cons_zero, List.set_cons_succ]
    refine wpAnyH_take (i := 11) (v := .agg (a.cells ua va).toArray) rfl (by kernel_rfl) (by kernel_rfl) (by kernel_rfl) (fun _ _ _ h => h) (yieldsIf_load_row (by rfl) 29 _ rfl (w.heap.size) (by go_simp) 29 (a.cells ua va).toArray (0, 0) _ (fun w' h => h.1) Try.underlying29 rfl (by rw [size_env]; rfl)) (by assumption) ?_
    simp only [Act.put, List.setIfInBounds_toArray, List.set_cons_zero, List.set_cons_succ]
    refine wpAnyH_take (i := 13) (v := .agg (a.cells ua va).toArray) rfl (by kernel_rfl) (by kernel_rfl) (by kernel_rfl) (fun _ _ _ h => h) (yieldsIf_load_row (by rfl) 29 _ rfl (w.heap.size) (by go_simp) 29 (a.cells ua va).toArray (0, 0) _ (fun w' h => h.1) Try.underlying29 rfl (by rw [size_env]; rfl)) (by assumption) ?_
    simp only [Act.put, List.setIfInBounds_toArray, List.set_cons_zero, List.set_cons_succ]
    refine wpAnyH_ready (rs := [12]) (by kernel_rfl) (by simp) (AllReadyH.cons rfl (fun K hK => ?_) AllReadyH.nil)
    go_simp
    refine (Valid_env a _ _ _ (Kind.below HKA.out (HBEL0.out.trans (HW6.out.mono HBEL0.out.size))) HSA.out).mono ?_
    rw [HQV.out]
    rintro e w7 ⟨rfl, q⟩
    have HW7 := hide (below_self HW6.out q)
    have HS7 := hide (HSS.out _ HW7.out)
    clear q
    go_wp2_with fail
    refine hK.out _ _ HS7.out (fun hHeld2 => ?_)
    clear hK K hHeld
    have hHeld := hHeld2
    clear hHeld2
    try simp only [Act.put, List.setIfInBounds_toArray, List.set_cons_zero, List.set_cons_succ]
    refine wpAnyH_ready (rs := [14]) (by kernel_rfl) (by simp) (AllReadyH.cons rfl (fun K hK => ?_) AllReadyH.nil)
    go_simp
    refine (as_any a ua va (fun _ => True) _ (sl_of_K (Kind.below HKA.out (HBEL0.out.trans (HW7.out.mono HBEL0.out.size)))).1 (sl_form (sl_of_K HKA.out).2) HSA.out.1).mono ?_
    rintro e w8 ⟨u8, rfl, hu8, q⟩
    have HU8 := hide hu8
    clear hu8
    have HW8 := hide (below_self HW7.out q)
    have HS8 := hide (HSS.out _ HW8.out)
    clear q
    go_wp2_with fail
    refine hK.out _ _ HS8.out (fun hHeld2 => ?_)
    clear hK K hHeld
    have hHeld := hHeld2
    clear hHeld2
    try simp only [Act.put, List.setIfInBounds_toArray, List.set_cons_zero, List.set_cons_succ]
    refine wpAnyH_ready (rs := [15]) (by kernel_rfl) (by simp) (AllReadyH.cons rfl (fun K hK => ?_) AllReadyH.nil)
    go_simp
    refine (refValid16_any a _ _ _ ⟨u8, va, rfl, HU8.out.weaken (ok' := fun _ => True) (fun _ _ => trivial), (sl_of_K (Kind.below HKA.out (HBEL0.out.trans (HW8.out.mono HBEL0.out.size)))).2⟩ HSA.out HTA.out).mono ?_
    rw [HQV.out]
    rintro e w9 ⟨rfl, q⟩
    have HW9 := hide (below_self HW8.out q)
    have HS9 := hide (HSS.out _ HW9.out)
    clear q
    go_wp2_with fail
    refine hK.out _ _ HS9.out (fun hHeld2 => ?_)
    clear hK K hHeld
    have hHeld := hHeld2
    clear hHeld2
    try simp only [Act.put, List.setIfInBounds_toArray, List.set_cons_zero, List.set_cons_succ]
    refine wpAnyH_take (i := 16) (v := .bool false) rfl (by kernel_rfl) (by kernel_rfl) (by kernel_rfl) (fun _ _ _ h => h) (Or.inl ⟨by rfl, ?_⟩) (by assumption) ?_
    · intro wq hSw
      clear hSw
      cases qv <;> go_simp
      try with_reducible rfl
    simp only [Act.put, List.setIfInBounds_toArray, List.set_cons_zero, List.set_cons_succ]
    refine wpAnyH_take (i := 17) (v := ?_) rfl (by kernel_rfl) (by kernel_rfl) (by kernel_rfl) (fun _ _ _ h => h) (Or.inl ⟨by rfl, ?_⟩) (by assumption) ?_
    rotate_left
    · intro wq hSw
      clear hSw
      go_simp
      try with_reducible rfl
    simp only [Act.put, List.setIfInBounds_toArray, List.set_cons_zero, List.set_cons_succ]
    refine wpAnyH_take (i := 18) (v := ?_) rfl (by kernel_rfl) (by kernel_rfl) (by kernel_rfl) (fun _ _ _ h => h) (Or.inl ⟨by rfl, ?_⟩) (by assumption) ?_
    rotate_left
    · intro wq hSw
      clear hSw
      go_simp
      try with_reducible rfl
    simp only [Act.put, List.setIfInBounds_toArray, List.set_cons_zero, List.set_cons_succ]
    refine wpAnyH_take (i := 19) (v := .agg (a.cells ua va).toArray) rfl (by kernel_rfl) (by kernel_rfl) (by kernel_rfl) (fun _ _ _ h => h) (yieldsIf_load_row (by rfl) 29 _ rfl (w.heap.size) (by go_simp) 29 (a.cells ua va).toArray (0, 0) _ (fun w' h => h.1) Try.underlying29 rfl (by rw [size_env]; rfl)) (by assumption) ?_
    simp only [Act.put, List.setIfInBounds_toArray, List.set_cons_zero, List.set_cons_succ]
    refine wpAnyH_take (i := 20) (v := .agg (b.cells ub vb).toArray) rfl (by kernel_rfl) (by kernel_rfl) (by kernel_rfl) (fun _ _ _ h => h) (yieldsIf_load_row (by rfl) 29 _ rfl (w.heap.size + 1) (by go_simp) 29 (b.cells ub vb).toArray (0, 0) _ (fun w' h => h.2) Try.underlying29 rfl (by rw [size_env]; rfl)) (by assumption) ?_
    simp only [Act.put, List.setIfInBounds_toArray, List.set_cons_zero, List.set_cons_succ]
    refine wpAnyH_take (i := 22) (v := .agg (a.cells ua va).toArray) rfl (by kernel_rfl) (by kernel_rfl) (by kernel_rfl) (fun _ _ _ h => h) (yieldsIf_load_row (by rfl) 29 _ rfl (w.heap.size) (by go_simp) 29 (a.cells ua va).toArray (0, 0) _ (fun w' h => h.1) Try.underlying29 rfl (by rw [size_env]; rfl)) (by assumption) ?_
    simp only [Act.put, List.setIfInBounds_toArray, List.set_cons_zero, List.set_cons_succ]
    refine wpAnyH_take (i := 24) (v := .agg (b.cells ub vb).toArray) rfl (by kernel_rfl) (by kernel_rfl) (by kernel_rfl) (fun _ _ _ h => h) (yieldsIf_load_row (by rfl) 29 _ rfl (w.heap.size + 1) (by go_simp) 29 (b.cells ub vb).toArray (0, 0) _ (fun w' h => h.2) Try.underlying29 rfl (by rw [size_env]; rfl)) (by assumption) ?_
    simp only [Act.put, List.setIfInBounds_toArray, List.set_cons_zero, List.set_cons_succ]
    refine wpAnyH_ready (rs := [21]) (by kernel_rfl) (by simp) (AllReadyH.cons rfl (fun K hK => ?_) AllReadyH.nil)
    go_simp
    refine (Same_any a b _ _ _ _ _ (Kind.below HKA.out (HBEL0.out.trans (HW9.out.mono HBEL0.out.size))) (Kind.below HKB.out (HBEL0.out.trans (HW9.out.mono HBEL0.out.size))) HSA.out HSB.out).mono ?_
    rw [HQS.out]
    rintro e w10 ⟨rfl, q⟩
    have HW10 := hide (below_self HW9.out q)
    have HS10 := hide (HSS.out _ HW10.out)
    clear q
    go_wp2_with fail
    refine hK.out _ _ HS10.out (fun hHeld2 => ?_)
    clear hK K hHeld
    have hHeld := hHeld2
    clear hHeld2
    try simp only [Act.put, List.setIfInBounds_toArray, List.set_cons_zero, List.set_cons_succ]
    refine wpAnyH_ready (rs := [23]) (by kernel_rfl) (by simp) (AllReadyH.cons rfl (fun K hK => ?_) AllReadyH.nil)
    go_simp
    refine (as_any a ua va (fun _ => True) _ (sl_of_K (Kind.below HKA.out (HBEL0.out.trans (HW10.out.mono HBEL0.out.size)))).1 (sl_form (sl_of_K HKA.out).2) HSA.out.1).mono ?_
    rintro e w11 ⟨u11, rfl, hu11, q⟩
    have HU11 := hide hu11
    clear hu11
    have HW11 := hide (below_self HW10.out q)
    have HS11 := hide (HSS.out _ HW11.out)
    clear q
    go_wp2_with fail
    refine hK.out _ _ HS11.out (fun hHeld2 => ?_)
    clear hK K hHeld
    have hHeld := hHeld2
    clear hHeld2
    try simp only [Act.put, List.setIfInBounds_toArray, List.set_cons_zero, List.set_cons_succ]
    refine wpAnyH_ready (rs := [25]) (by kernel_rfl) (by simp) (AllReadyH.cons rfl (fun K hK => ?_) AllReadyH.nil)
    go_simp
    refine (as_any b ub vb (fun _ => True) _ (sl_of_K (Kind.below HKB.out (HBEL0.out.trans (HW11.out.mono HBEL0.out.size)))).1 (sl_form (sl_of_K HKB.out).2) HSB.out.1).mono ?_
    rintro e w12 ⟨u12, rfl, hu12, q⟩
    have HU12 := hide hu12
    clear hu12
    have HU11' := hide (HU11.out.below q)
    have HW12 := hide (below_self HW11.out q)
    have HS12 := hide (HSS.out _ HW12.out)
    clear q
    go_wp2_with fail
    refine hK.out _ _ HS12.out (fun hHeld2 => ?_)
    clear hK K hHeld
    have hHeld := hHeld2
    clear hHeld2
    try simp only [Act.put, List.setIfInBounds_toArray, List.set_cons_zero, List.set_cons_succ]
    refine wpAnyH_ready (rs := [26]) (by kernel_rfl) (by simp) (AllReadyH.cons rfl (fun K hK => ?_) AllReadyH.nil)
    go_simp
    refine (refSame16_any a b _ _ _ _ _ ⟨u11, va, rfl, HU11'.out.weaken (ok' := fun _ => True) (fun _ _ => trivial), (sl_of_K (Kind.below HKA.out (HBEL0.out.trans (HW12.out.mono HBEL0.out.size)))).2⟩ ⟨u12, vb, rfl, HU12.out.weaken (ok' := fun _ => True) (fun _ _ => trivial), (sl_of_K (Kind.below HKB.out (HBEL0.out.trans (HW12.out.mono HBEL0.out.size)))).2⟩ HSA.out).mono ?_
    rw [HQS.out]
    rintro e w13 ⟨rfl, q⟩
    have HW13 := hide (below_self HW12.out q)
    have HS13 := hide (HSS.out _ HW13.out)
    clear q
    go_wp2_with fail
    refine hK.out _ _ HS13.out (fun hHeld2 => ?_)
    clear hK K hHeld
    have hHeld := hHeld2
    clear hHeld2
    try simp only [Act.put, List.setIfInBounds_toArray, List.set_cons_zero, List.set_cons_succ]
    refine wpAnyH_take (i := 27) (v := .bool false) rfl (by kernel_rfl) (by kernel_rfl) (by kernel_rfl) (fun _ _ _ h => h) (Or.inl ⟨by rfl, ?_⟩) (by assumption) ?_
    · intro wq hSw
      clear hSw
      cases qs <;> go_simp
      try with_reducible rfl
    simp only [Act.put, List.setIfInBounds_toArray, List.set_cons_zero, List.set_cons_succ]
    refine wpAnyH_take (i := 28) (v := ?_) rfl (by kernel_rfl) (by kernel_rfl) (by kernel_rfl) (fun _ _ _ h => h) (Or.inl ⟨by rfl, ?_⟩) (by assumption) ?_
    rotate_left
    · intro wq hSw
      clear hSw
      go_simp
      try with_reducible rfl
    simp only [Act.put, List.setIfInBounds_toArray, List.set_cons_zero, List.set_cons_succ]
    refine wpAnyH_take (i := 29) (v := ?_) rfl (by kernel_rfl) (by kernel_rfl) (by kernel_rfl) (fun _ _ _ h => h) (Or.inl ⟨by rfl, ?_⟩) (by assumption) ?_
    rotate_left
    · intro wq hSw
      clear hSw
      go_simp
      try with_reducible rfl
    simp only [Act.put, List.setIfInBounds_toArray, List.set_cons_zero, List.set_cons_succ]
    refine wpAnyH_take (i := 30) (v := .agg (a.cells ua va).toArray) rfl (by kernel_rfl) (by kernel_rfl) (by kernel_rfl) (fun _ _ _ h => h) (yieldsIf_load_row (by rfl) 29 _ rfl (w.heap.size) (by go_simp) 29 (a.cells ua va).toArray (0, 0) _ (fun w' h => h.1) Try.underlying29 rfl (by rw [size_env]; rfl)) (by assumption) ?_
    simp only [Act.put, List.setIfInBounds_toArray, List.set_cons_zero, List.set_cons_succ]
    refine wpAnyH_take (i := 31) (v := .agg (a.cells ua va).toArray) rfl (by kernel_rfl) (by kernel_rfl) (by kernel_rfl) (fun _ _ _ h => h) (yieldsIf_load_row (by rfl) 29 _ rfl (w.heap.size) (by go_simp) 29 (a.cells ua va).toArray (0, 0) _ (fun w' h => h.1) Try.underlying29 rfl (by rw [size_env]; rfl)) (by assumption) ?_
    simp only [Act.put, List.setIfInBounds_toArray, List.set_cons_zero, List.set_cons_succ]
    refine wpAnyH_ready (rs := [32]) (by kernel_rfl) (by simp) (AllReadyH.cons rfl (fun K hK => ?_) AllReadyH.nil)
    go_simp
    refine (Same_any a a _ _ _ _ _ (Kind.below HKA.out (HBEL0.out.trans (HW13.out.mono HBEL0.out.size))) (Kind.below HKA.out (HBEL0.out.trans (HW13.out.mono HBEL0.out.size))) HSA.out HSA.out).mono ?_
    rw [sameE_self]
    rintro e w14 ⟨rfl, q⟩
    have HW14 := hide (below_self HW13.out q)
    have HS14 := hide (HSS.out _ HW14.out)
    clear q
    go_wp2_with fail
    refine hK.out _ _ HS14.out (fun hHeld2 => ?_)
    clear hK K hHeld
    have hHeld := hHeld2
    clear hHeld2
    try simp only [Act.put, List.setIfInBounds_toArray, List.set_cons_zero, List.set_cons_succ]
    refine wpAnyH_take (i := 33) (v := ?_) rfl (by kernel_rfl) (by kernel_rfl) (by kernel_rfl) (fun _ _ _ h => h) (Or.inl ⟨by rfl, ?_⟩) (by assumption) ?_
    rotate_left
    · intro wq hSw
      clear hSw
      go_simp
      try with_reducible rfl
    simp only [Act.put, List.setIfInBounds_toArray, List.set_cons_zero, List.set_cons_succ]
    refine wpAnyH_take (i := 34) (v := ?_) rfl (by kernel_rfl) (by kernel_rfl) (by kernel_rfl) (fun _ _ _ h => h) (Or.inl ⟨by rfl, ?_⟩) (by assumption) ?_
    rotate_left
    · intro wq hSw
      clear hSw
      go_simp
      try with_reducible rfl
    simp only [Act.put, List.setIfInBounds_toArray, List.set_cons_zero, List.set_cons_succ]
    clear hHeld
    refine wpAnyH_done (by kernel_rfl) ?_ _
    have HB3 := hide (HBEL0.out.trans (HW14.out.mono HBEL0.out.size))
    clear HBEL0 HBA0 HBB0 HSS HKA HKB HSA HSB HTA HVF HQV HQS
    have HV30 := hide (show validE (sizeT firstT 30) = true by kernel_rfl)
    go_upto_region 6 with (first
      | (go_at_call 17
         refine (New_any _).mono ?_
         rintro e v1 ⟨g, b1, rfl, hg, hb, h1, q⟩
         have HG := hide hg
         have HBG := hide hb
         have H1 := hide h1
         have Q1 := hide q
         clear hg hb h1 q))
    go_upto_region 7 with (first
      | (go_at_call 18
         refine (Now_any H1.out (x := firstT) (updT_same _ _ _)).mono ?_
         rintro e v3 ⟨cs3, rfl, hk3, q3⟩
         obtain ⟨u3, z3, rfl, -, -⟩ := id hk3
         have H3 := hide (H1.out.below q3)
         have HK3 := hide hk3
         have HQ3 := hide q3
         have HBV3 := hide (HB3.out.trans ((below_self Q1.out q3).mono HB3.out.size))
         clear hk3 q3)
      | refine wpList_store_row rfl 29 _ _ rfl v3.heap.size (firstT.cells u3 z3).toArray rfl rfl 29 _ (blk_new _ _) (by rw [size_env]; rfl) rfl (all_oneCell_toArray (envK.one HK3.out)) ?_)
    refine wp_setRow (blk_new _ _) ?_
    intro W4 hb4 hk4 hsz4
    have hbe4 : Below v3.heap.size v3 W4 := ((Below.refl _ _).alloc (Nat.le_refl _) (.cells _ 29)).trans (hk4.below (by simp) (fun i h => by omega))
    have z2 : W4.cell? ⟨v3.heap.size, 2, none⟩ = some (.int .i64 10) := by rw [blk_cell hb4]; rfl
    have z2f : W4.frozen? ⟨v3.heap.size, 2, none⟩ = false := blk_frozen hb4
    have HBK4 := hide hb4
    have HBE4 := hide hbe4
    clear hb4 hk4 hsz4 hbe4
    go_upto_region 8 with fail
    refine wp_set HBK4.out ?_
    rw [size_cells]
    intro W5 hb5 hk5 hsz5
    have hbe5 : Below v3.heap.size v3 W5 := HBE4.out.trans (hk5.below HBE4.out.size (fun i h => by omega))
    obtain ⟨hs5, hr5⟩ := sl_of_K (Kind.below HK3.out hbe5)
    have HK5 := hide (show envK.K W5 (fun k => v1.heap.size ≤ k) (sizeT firstT 30) ((sizeT firstT 30).cells u3 z3) from ⟨u3, z3, rfl, hs5, hr5⟩)
    have H5 := hide (H3.out.below hbe5)
    have HB5 := hide (HBV3.out.trans (hbe5.mono HBV3.out.size))
    have HBK5 := hide hb5
    have HBB := hide (show w.heap.size ≤ b1 ∧ w.heap.size ≤ g from ⟨Nat.le_trans HB3.out.size HBG.out, Nat.le_trans HB3.out.size HG.out⟩)
    clear hb5 hk5 hsz5 z2 z2f hbe5 hs5 hr5 H1 H3 HK3 HQ3 HBK4 HBE4 HBV3 HG HBG Q1 HB3
    go_upto_region 10 with (first
      | refine wpList_load_row rfl 29 _ rfl v3.heap.size rfl 29 _ (0, 0) _ HBK5.out Try.underlying29 rfl (by rw [size_env]; rfl) ?_
      | (go_at_call 19
         refine (Put_ok H5.out HK5.out first_small HV30.out).mono ?_
         rintro e w6 ⟨rfl, h6, hk6⟩
         have H6 := hide h6
         have HB6 := hide (HB5.out.trans (hk6.below HB5.out.size (fun k hk => by have := HBB.out.1; omega)))
         clear h6 hk6))
    clear H5 HK5 HB5 HBK5
    cases hn0 : (name.toList == [48]) with
    | true =>
      go_wp2_with (first
        | (go_at_call 9; refine (sane_any _).mono ?_; rintro e w9 ⟨rfl, q⟩; have HQ := hide (HB6.out.trans (q.mono HB6.out.size)); clear q))
      go_ret
      exact ⟨rfl, HQ.out⟩
    | false =>
      have hne : name ≠ name0 := fun e => by
        rw [e, show (name0.toList == [48]) = true by rw [ByteArray.toList_eq]; rfl] at hn0
        cases hn0
      have hF : updT (updT (fun _ => none) name0 firstT) name0 (sizeT firstT 30) name = none := by
        rw [updT_other _ _ hne, updT_other _ _ hne]
      have HF := hide hF
      cases hnb : nameB name with
      | false =>
        have HNB := hide hnb
        clear hF hne hnb
        go_wp2_with (first
          | (go_at_call 20
             refine (Enter_bad_none H6.out HNM.out HF.out HNB.out).mono ?_
             rintro e w7 ⟨rfl, q7⟩
             have HB7 := hide (HB6.out.trans (q7.mono HB6.out.size))
             clear q7)
          | (go_at_call 9; refine (sane_any _).mono ?_; rintro e w9 ⟨rfl, q⟩; have HQ := hide (HB7.out.trans (q.mono HB7.out.size)); clear q))
        go_ret
        exact ⟨rfl, HQ.out⟩
      | true =>
        have HNB := hide hnb
        clear hF hne hnb
        go_wp2_with (first
          | (go_at_call 20
             refine (Enter_new H6.out HNM.out HF.out HNB.out (by simp) (by omega)).mono ?_
             rintro e w7 ⟨rfl, sv2, h7, hk7, hs7⟩
             have HB7 := hide (HB6.out.trans (hk7.below HB6.out.size (fun k hk => by
               rcases hk with rfl | rfl | hk
               · exact HBB.out.2
               · exact HBB.out.1
               · simp [Value.ownBlock] at hk)))
             have H7 := hide h7
             clear h7 hk7 hs7)
          | (go_at_call 18
             refine (Now_any H7.out (x := firstT) (updT_same _ _ _)).mono ?_
             rintro e w8 ⟨cs8, rfl, hk8, q8⟩
             have HK8 := hide hk8
             have HB8 := hide (HB7.out.trans (q8.mono HB7.out.size))
             clear hk8 q8)
          | (go_at_call 12
             refine (First_any _).mono ?_
             rintro e w9 ⟨rfl, q9⟩
             have HK9 := hide (Kind.below HK8.out q9)
             have HB9 := hide (HB8.out.trans (q9.mono HB8.out.size))
             clear q9)
          | (go_at_call 16
             refine (Same_any firstT firstT cs8 firstCs _ (fun _ => True) _ HK9.out (first_K _ _) first_small first_small).mono ?_
             rw [sameE_self]
             rintro e w10 ⟨rfl, q10⟩
             have HB10 := hide (HB9.out.trans (q10.mono HB9.out.size))
             clear q10)
          | (go_at_call 9; refine (sane_any _).mono ?_; rintro e w11 ⟨rfl, q⟩; have HQ := hide (HB10.out.trans (q.mono HB10.out.size)); clear q))
        go_ret
        exact ⟨rfl, HQ.out⟩
end Go.Proofs.Ytekkjieoikgpmaa
end
section
/- The last step of a law's row, whatever its arguments: it returned true and only made new memory. -/
set_option linter.unusedVariables false
namespace Go.Proofs.Ytekkjieoikgpmaa
open Go.ChangeShapes Go.WideShapes Go.ChangeAt Go.RowKit
section
variable {H : Type} {enc : TypeId × Value → H} {P : Program}
theorem trodAll_stays (hl : laidOutB P = true) {W W' : World} (hb : Below W.heap.size W W') : ∀ {ts : List TypeId} {vs : List Value} {ds : List (DataW H)} {ps : List MemPlace}, (∀ t ∈ ts, P.readableRec t = true ∧ t < P.types.size) →
    (∀ x ∈ ps, x.block < W.heap.size) → DataW.TrodAll enc P W 0 (fun _ => true) true ts vs ds ps → DataW.TrodAll enc P W' 0 (fun b => decide (b < W.heap.size)) true ts vs ds ps
  | [], [], [], ps, _, _, h => h
  | [], [], _ :: _, _, _, _, h => h.elim
  | [], _ :: _, _, _, _, _, h => h.elim
  | _ :: _, [], _, _, _, _, h => h.elim
  | _ :: _, _ :: _, [], _, _, _, h => h.elim
  | t :: ts, v :: vs, d :: ds, ps, hr, hp, h => by
    obtain ⟨p, q, h1, h2, rfl⟩ := h
    refine ⟨p, q, Below.trod hl (hr t (by simp)).1 (hr t (by simp)).2 h1 hb (fun x hx => hp x (by simp [hx])), trodAll_stays hl hb (fun t ht => hr t (by simp [ht])) (fun x hx => hp x (by simp [hx])) h2, rfl⟩
theorem law_post {f : Func} {s : ChangeSpec} {W W' : World} {args : Array Value} {ds : List (DataW H)} {before : List MemPlace} {b : TypeId} (hl : laidOutB P = true) (hv : s.vars = []) (hr : f.resultTypes.toList = [b]) (hb1 : f.resultTypes.size = 1) (hb : P.underlying b = some .bool)
    (hres : (s.fn H (ds ++ [])).results = [.lit (.bool true)]) (hargs : (s.fn H (ds ++ [])).args = ds) (hvars : (s.fn H (ds ++ [])).vars = []) (htypes : ∀ t ∈ f.params.toList, P.readableRec t = true ∧ t < P.types.size)
    (hW : DataW.Whole enc P f.params.toList s.vars false W args.toList ds [] before) (hbel : Below W.heap.size W W') : s.post enc P f false true false false W args (.bool true) W' := by
  have hlt := hW.lt
  have hW' := hW
  obtain ⟨p, q, h1, h2, rfl, h3, h4⟩ := hW'
  rw [hv] at h2
  have hq : q = [] := h2
  subst hq
  refine ⟨ds, [], p ++ [], [], p, [], hW, ?_, ?_, ?_, World.keptBut_mono (fun x hx => ⟨hx, .inr (.inl (by simpa using hx))⟩) (hbel.frame (· ∈ p ++ [])), fun h => by cases h⟩
  · rw [hr, hb1, hres]
    exact trodAll_mk1 (shut_bool hb true)
  · rw [hargs]
    exact trodAll_stays hl hbel htypes (fun x hx => hlt x (by simp [hx])) h1
  · rw [hv, hvars]; rfl
end
end Go.Proofs.Ytekkjieoikgpmaa
end
section
/- Arguments opened: a slice reads as a list of a kind. -/
set_option linter.unusedVariables false
namespace Go.Proofs.Ytekkjieoikgpmaa
open Go.ChangeShapes Go.WideShapes Go.ChangeAt Go.RowKit Go.Deep
section
variable {H : Type} {enc : TypeId × Value → H} {P : Program} {w : World} {spare : Nat → Bool} {held : Bool}
theorem addr_flat {w : World} {a : Addr} {v : Value} (h : w.cell? a = some v) : a = ⟨a.block, a.off, none⟩ := by
  obtain ⟨b, o, s⟩ := a
  cases s with
  | none => rfl
  | some s => unfold World.cell? at h; split at h <;> simp at h
theorem list_of {α : Type} {Q : Nat → α → Prop} : ∀ (n : Nat), (∀ i, i < n → ∃ x, Q i x) → ∃ l : List α, l.length = n ∧ ∀ i x, l[i]? = some x → Q i x
  | 0, _ => ⟨[], rfl, fun i x h => by simp at h⟩
  | n + 1, h => by
    obtain ⟨l, hl, hq⟩ := list_of n fun i hi => h i (by omega)
    obtain ⟨x, hx⟩ := h n (by omega)
    refine ⟨l ++ [x], by simp [hl], fun i y hy => ?_⟩
    rcases Nat.lt_or_ge i l.length with hi | hi
    · rw [List.getElem?_append_left hi] at hy; exact hq i y hy
    · rw [List.getElem?_append_right hi] at hy
      have h0 : i - l.length = 0 := by
        rcases Nat.eq_zero_or_pos (i - l.length) with h | h
        · exact h
        · rw [List.getElem?_eq_none (by simp; omega)] at hy; cases hy
      rw [h0] at hy
      have e1 : i = n := by omega
      have e2 : x = y := by simpa using hy
      rw [e1, ← e2]; exact hx
theorem okWide_slice_eq {t e : TypeId} {r : Reach} {b0 : Nat} {v : Value} {A : Option Addr} {n c : Nat} (ht : P.underlying t = some (.slice e)) (hval : Value.okWide P w r b0 t v) (hc : v.cells.toList = [.slice A n c]) : v = .slice A n c := by
  obtain ⟨A', n', c', rfl⟩ := okWide_slice ht hval
  simpa [Value.cells] using hc
theorem open_kind {α : Type} (d : Kind α) {t e : TypeId} {r : Reach} {b0 : Nat} {v : Value} {x : DataW H} {ps : List MemPlace} (ht : P.underlying t = some (.slice e)) (hsz : P.cellsOf e = d.sz) (hs0 : 0 < d.sz)
    (hel : ∀ (n : Nat) (cs : List Value) (y : DataW H × List MemPlace), cs.length = d.sz → DataW.trod enc P w 0 spare held n e cs = some y → ∃ z : α, d.K w (fun _ => True) z cs)
    (hval : Value.okWide P w r b0 t v) (h : DataW.Trod enc P w 0 spare held t v x ps) : ∃ A n c l, v = .slice A n c ∧ n ≤ c ∧ c ≤ maxLen ∧ d.Rd w (fun _ => True) A n l := by
  obtain ⟨fuel, hf⟩ := h
  rcases open_slice ht hf with ⟨hc, -⟩ | ⟨a, len, cap, m, n, D, Pl, hc, hb, hl, hm, hmm, -, hi⟩
  · exact ⟨none, 0, 0, [], okWide_slice_eq ht hval hc, Nat.le_refl _, Nat.zero_le _, Kind.Rd.nil _ _ _ _⟩
  · refine ⟨some a, len, cap, ?_⟩
    have hlm : len ≤ m := by rw [hmm]; split <;> omega
    have hq : ∀ i, i < len → ∃ z : α, ∃ cs, d.K w (fun _ => True) z cs ∧ ∀ j u, cs[j]? = some u → w.cell? (a.add (i * d.sz + j)) = some u := by
      intro i hil
      obtain ⟨cs', h1, h2⟩ := hi i (by omega)
      rw [hsz] at h1
      obtain ⟨-, hlen, hat⟩ := World.cells?_some h1
      obtain ⟨z, hz⟩ := hel n cs' _ hlen h2
      refine ⟨z, cs', hz, fun j u hu => ?_⟩
      have hj : j < d.sz := by rw [← hlen]; exact (List.getElem?_eq_some_iff.1 hu).1
      rw [← add_add, hat j hj, hu]
    obtain ⟨l, hll, hlq⟩ := list_of len hq
    refine ⟨l, okWide_slice_eq ht hval hc, hl, hm, hll, fun hp => ?_⟩
    obtain ⟨z, hz⟩ : ∃ z, l[0]? = some z := ⟨_, List.getElem?_eq_getElem (by omega)⟩
    obtain ⟨cs, hK, hcell⟩ := hlq 0 z hz
    obtain ⟨u, hu⟩ : ∃ u, cs[0]? = some u := ⟨_, List.getElem?_eq_getElem (by rw [d.len hK]; omega)⟩
    have h0 := hcell 0 u hu
    rw [Nat.zero_mul, Nat.add_zero] at h0
    have ha : a.add 0 = a := by unfold Addr.add; rw [if_pos rfl]
    rw [ha] at h0
    have hfl := addr_flat h0
    refine ⟨a.block, a.off, congrArg some hfl, trivial, ?_, fun i y hy => ?_⟩
    · rw [hfl] at h0; exact cell_lt h0
    · obtain ⟨cs, hK, hcell⟩ := hlq i y hy
      refine ⟨cs, hK, fun j u hu => ?_⟩
      have := hcell j u hu
      rw [hfl, Addr.add_lit] at this
      rw [← this, Nat.add_assoc]
end
end Go.Proofs.Ytekkjieoikgpmaa
end
section
/- Arguments opened: strings, numbers; what all rows of this seat use. -/
set_option linter.unusedVariables false
namespace Go.Proofs.Ytekkjieoikgpmaa
open Go.ChangeShapes Go.WideShapes Go.ChangeAt Go.RowKit
theorem own_ : ownKnob Try.prog.godebug = none := by kernel_rfl
theorem laidOut_ : laidOutB Try.prog = true := by kernel_rfl
theorem i64_bounds {n : Int} (h : (Lit.int .i64 n).wf = true) : -9223372036854775808 ≤ n ∧ n ≤ 9223372036854775807 := by
  have h1 : (decide (IntKind.min .i64 ≤ n) && decide (n ≤ IntKind.max .i64)) = true := h
  have e1 : IntKind.min .i64 = -9223372036854775808 := by decide
  have e2 : IntKind.max .i64 = 9223372036854775807 := by decide
  rw [e1, e2] at h1
  simpa using h1
section
variable {H : Type} {enc : TypeId × Value → H} {w : World} {spare : Nat → Bool} {held : Bool}
theorem int_el (n : Nat) (cs : List Value) (y : DataW H × List MemPlace) (hl : cs.length = Kind.int.sz) (h : DataW.trod enc Try.prog w 0 spare held n 3 cs = some y) : ∃ z : Int, Kind.int.K w (fun _ => True) z cs := by
  obtain ⟨k, e0, -, -⟩ := DataW.trod_int Try.underlying3 h
  exact ⟨k, e0⟩
end
end Go.Proofs.Ytekkjieoikgpmaa
end
section
/- Arguments opened: a slice that is a field of a struct. -/
set_option linter.unusedVariables false
namespace Go.Proofs.Ytekkjieoikgpmaa
open Go.ChangeShapes Go.WideShapes Go.ChangeAt Go.RowKit Go.Deep
section
variable {H : Type} {enc : TypeId × Value → H} {P : Program} {w : World} {spare : Nat → Bool} {held : Bool}
theorem open_kind_cells {α : Type} (d : Kind α) {t e : TypeId} {cs0 : List Value} {x : DataW H × List MemPlace} {fuel : Nat} (ht : P.underlying t = some (.slice e)) (hsz : P.cellsOf e = d.sz) (hs0 : 0 < d.sz)
    (hel : ∀ (n : Nat) (cs : List Value) (y : DataW H × List MemPlace), cs.length = d.sz → DataW.trod enc P w 0 spare held n e cs = some y → ∃ z : α, d.K w (fun _ => True) z cs)
    (hf : DataW.trod enc P w 0 spare held fuel t cs0 = some x) : ∃ A n c l, cs0 = [.slice A n c] ∧ n ≤ c ∧ c ≤ maxLen ∧ d.Rd w (fun _ => True) A n l := by
  rcases open_slice ht hf with ⟨hc, -⟩ | ⟨a, len, cap, m, n, D, Pl, hc, hb, hl, hm, hmm, -, hi⟩
  · exact ⟨none, 0, 0, [], hc, Nat.le_refl _, Nat.zero_le _, Kind.Rd.nil _ _ _ _⟩
  · refine ⟨some a, len, cap, ?_⟩
    have hlm : len ≤ m := by rw [hmm]; split <;> omega
    have hq : ∀ i, i < len → ∃ z : α, ∃ cs, d.K w (fun _ => True) z cs ∧ ∀ j u, cs[j]? = some u → w.cell? (a.add (i * d.sz + j)) = some u := by
      intro i hil
      obtain ⟨cs', h1, h2⟩ := hi i (by omega)
      rw [hsz] at h1
      obtain ⟨-, hlen, hat⟩ := World.cells?_some h1
      obtain ⟨z, hz⟩ := hel n cs' _ hlen h2
      refine ⟨z, cs', hz, fun j u hu => ?_⟩
      have hj : j < d.sz := by rw [← hlen]; exact (List.getElem?_eq_some_iff.1 hu).1
      rw [← add_add, hat j hj, hu]
    obtain ⟨l, hll, hlq⟩ := list_of len hq
    refine ⟨l, hc, hl, hm, hll, fun hp => ?_⟩
    obtain ⟨z, hz⟩ : ∃ z, l[0]? = some z := ⟨_, List.getElem?_eq_getElem (by omega)⟩
    obtain ⟨cs, hK, hcell⟩ := hlq 0 z hz
    obtain ⟨u, hu⟩ : ∃ u, cs[0]? = some u := ⟨_, List.getElem?_eq_getElem (by rw [d.len hK]; omega)⟩
    have h0 := hcell 0 u hu
    rw [Nat.zero_mul, Nat.add_zero] at h0
    have ha : a.add 0 = a := by unfold Addr.add; rw [if_pos rfl]
    rw [ha] at h0
    have hfl := addr_flat h0
    refine ⟨a.block, a.off, congrArg some hfl, trivial, ?_, fun i y hy => ?_⟩
    · rw [hfl] at h0; exact cell_lt h0
    · obtain ⟨cs, hK, hcell⟩ := hlq i y hy
      refine ⟨cs, hK, fun j u hu => ?_⟩
      have := hcell j u hu
      rw [hfl, Addr.add_lit] at this
      rw [← this, Nat.add_assoc]
end
end Go.Proofs.Ytekkjieoikgpmaa
end
