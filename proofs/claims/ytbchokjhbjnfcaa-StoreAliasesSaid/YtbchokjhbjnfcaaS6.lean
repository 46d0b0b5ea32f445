/- The store: cut and Part at a string. -/
import Derived.Test.YtbchokjhbjnfcaaS5
import Derived.BigRegion
import Derived.RegionTactic
set_option linter.unusedVariables false
set_option linter.unusedSimpArgs false
namespace Go.Proofs.Ytbchokjhbjnfcaa
open Go.RowKit
set_option maxHeartbeats 1600000
set_option maxRecDepth 1000000

/-- A place of n, from either end. -/
def placeP (n k : Int) : Int := min (if k < 0 then max k (-n - 1) + n else k) n
theorem placeP_ge (n k : Int) (hn : 0 ≤ n) : -1 ≤ placeP n k := by unfold placeP; split <;> omega
theorem placeP_le (n k : Int) : placeP n k ≤ n := by unfold placeP; omega
theorem place_any (k : Int) (b : Nat) (n : Nat) (w : World) (hn : n ≤ 1000000) (h : w.cell? ⟨b, 0, none⟩ = some (.int .i64 n)) :
    Calls Try.prog 35 #[.int .i64 k, .pointer (some ⟨b, 0, none⟩)] w fun e w' => e = .returned (.int .i64 (placeP n k)) ∧ w = w' := by
  obtain ⟨r, hr⟩ : ∃ r, r = placeP n k := ⟨_, rfl⟩
  rw [← hr]
  have HR := hide hr
  clear hr
  by_cases hk : k < 0
  · by_cases hk2 : k ≤ -(n : Int) - 1
    · have hp : r = -1 := by rw [HR.out]; unfold placeP; rw [if_pos hk]; omega
      have HP := hide hp
      clear hp
      go_enter Try.func35, Try.ntmps35
      go_wp2_with fail
      all_goals go_ret
      all_goals exact ⟨ret_int (by first | (rw [HP.out]; done) | (rw [HP.out]; omega)), rfl⟩
    · have hp : r = k + n := by rw [HR.out]; unfold placeP; rw [if_pos hk]; omega
      have HP := hide hp
      clear hp
      go_enter Try.func35, Try.ntmps35
      go_wp2_with fail
      all_goals go_ret
      all_goals exact ⟨ret_int (by first | (rw [HP.out]; done) | (rw [HP.out]; omega)), rfl⟩
  · have hp : r = min k n := by rw [HR.out]; unfold placeP; rw [if_neg hk]
    have HP := hide hp
    clear hp
    go_enter Try.func35, Try.ntmps35
    go_wp2_with fail
    all_goals go_ret
    all_goals exact ⟨ret_int (by first | (rw [HP.out]; done) | (rw [HP.out]; omega)), rfl⟩

theorem EntAt.text_row {w : World} {e : Nat} {x : EntS} (h : EntAt w e x) {t : ByteArray} (hL : x.L = [plain t]) : ∃ g off cur c A5 c5, x.v = .slice (some ⟨g, off, none⟩) 1 c ∧ 1 ≤ c ∧ c ≤ 9223372036854775807 ∧ x.lo ≤ g ∧ g < x.hi ∧ w.heap[g]? = some (.cells cur 61 (0, 0)) ∧ c5 ≤ 9223372036854775807 ∧
    ∀ (j : Nat) u, ((plain t).cells A5 c5)[j]? = some u → w.cell? ⟨g, off + j, none⟩ = some u := by
  obtain ⟨ok, A, c, hv, h1, h2, h3, h4, h5, h6⟩ := h.lines
  rw [hL] at hv h1 h3 h6
  obtain ⟨g, off, cur, rfl, hg⟩ := h6 (by simp)
  obtain ⟨b', o', e', hok, hlt, hcell⟩ := h3.2 (by simp)
  cases e'
  obtain ⟨cs, ⟨A5, c5, rfl, ht, -, hc5, -⟩, hcs⟩ := hcell 0 _ rfl
  exact ⟨g, off, cur, c, A5, c5, hv, h1, h2, (h4 _ hok).1, (h4 _ hok).2, hg, hc5, hcs⟩

/-- The text of a string's entry is another one. -/
theorem Sto.retext {base : Nat} {w w' : World} {g b : Nat} {F : ByteArray → Option Nat} {sz : Nat} {E : Nat → Option EntS} (h : Sto base w g b F sz E) {e : Nat} {x : EntS} {t t' : ByteArray} (he : E e = some x) (hkd : x.kind = 1) (hL : x.L = [plain t]) (ht' : t'.size ≤ 9223372036854775807)
    {gl off c c5 : Nat} {cur : Array Value} {A5 : Option Addr} (hv : x.v = .slice (some ⟨gl, off, none⟩) 1 c) (hc : 1 ≤ c) (hc2 : c ≤ 9223372036854775807) (hlo : x.lo ≤ gl) (hhi : gl < x.hi) (hb : w.heap[gl]? = some (.cells cur 61 (0, 0))) (hc5 : c5 ≤ 9223372036854775807)
    (hcell : ∀ (j : Nat) u, ((plain t).cells A5 c5)[j]? = some u → w.cell? ⟨gl, off + j, none⟩ = some u)
    (hk : Kept (fun k => k = gl) w w') (hb' : w'.heap[gl]? = some (.cells (cur.setIfInBounds off (.string t')) 61 (0, 0))) : Sto base w' g b F sz (updE E e { x with L := [plain t'] }) := by
  have hE := h.each e x he
  have hlow := h.low e x he
  have hcase : ∀ {e' x'}, updE E e { x with L := [plain t'] } e' = some x' → (e' = e ∧ x' = { x with L := [plain t'] }) ∨ (e' ≠ e ∧ E e' = some x') := by
    intro e' x' h'
    by_cases he : e' = e
    · subst he
      rw [updE_same] at h'
      injection h' with h'
      exact .inl ⟨rfl, h'.symm⟩
    · rw [updE_other _ _ he] at h'
      exact .inr ⟨he, h'⟩
  have hrow : LinesAt w' x.lo x.hi x.v [plain t'] := by
    refine ⟨fun k => k = gl, some ⟨gl, off, none⟩, c, hv, hc, hc2, ⟨rfl, fun _ => ⟨gl, off, rfl, rfl, blk_lt hb', fun i y hy => ?_⟩⟩, fun k hk => by rw [hk]; exact ⟨hlo, hhi⟩, Nat.le_trans hE.hi_le hk.size, fun _ => ⟨gl, off, _, rfl, hb'⟩⟩
    have hi : i = 0 := by
      have := (List.getElem?_eq_some_iff.1 hy).1
      simp at this
      exact this
    subst hi
    injection hy with hy
    subst hy
    refine ⟨(plain t').cells A5 c5, ⟨A5, c5, rfl, ht', Nat.zero_le _, hc5, Kind.Rd.nil _ _ _ _⟩, fun j u hu => ?_⟩
    have e1 : off + 0 * lineK.sz + j = off + j := by omega
    rw [e1, blk_cell hb']
    cases j with
    | zero =>
      have h0 := hcell 0 _ rfl
      rw [blk_cell hb] at h0
      have hs := (Array.getElem?_eq_some_iff.1 h0).1
      have hu' : u = .string t' := by injection hu with hu; exact hu.symm
      rw [hu']
      have hs' : off < cur.size := by simpa using hs
      show (cur.setIfInBounds off (.string t'))[off]? = some (.string t')
      rw [Array.getElem?_setIfInBounds]
      simp [hs']
    | succ j =>
      have h1 := hcell (j + 1) u (by simpa [LineT.cells, plain] using hu)
      rw [blk_cell hb] at h1
      rw [Array.getElem?_setIfInBounds_ne (by omega)]
      exact h1
  refine ⟨blk_kept h.blk hk (by have := hlow.2.2.2; omega), h.map.step (hk.block b h.map.lt (by have := hlow.2.2.1; omega)), fun s e' hs => ?_, fun e' x' h' => ?_, fun e' x' h' => ?_, fun e' x' e2 x2 h' h2 => ?_, h.hg, h.hb⟩
  · obtain ⟨x', hx'⟩ := h.ent s e' hs
    by_cases he : e' = e
    · subst he; exact ⟨_, updE_same _ _ _⟩
    · exact ⟨x', by rw [updE_other _ _ he]; exact hx'⟩
  · rcases hcase h' with ⟨rfl, rfl⟩ | ⟨h1, h2⟩
    · have hne : e' ≠ gl := by have := (h.apart e' x e' x he he).1; omega
      exact ⟨blk_kept hE.blk hk hne, hrow, hE.kinds, fun _ => ⟨t', rfl⟩, by simp⟩
    · refine (h.each e' x' h2).kept hk (fun e3 => ?_) (fun k hk1 hk2 e3 => ?_)
      · have := (h.apart e' x' e x h2 he).1; omega
      · have := (h.apart e' x' e x h2 he).2 h1; omega
  · rcases hcase h' with ⟨rfl, rfl⟩ | ⟨h1, h2⟩
    · exact hlow
    · exact h.low e' x' h2
  · rcases hcase h' with ⟨rfl, rfl⟩ | ⟨h3, h4⟩
    · rcases hcase h2 with ⟨rfl, rfl⟩ | ⟨h5, h6⟩
      · exact ⟨(h.apart _ x _ x he he).1, fun e3 => absurd rfl e3⟩
      · exact h.apart _ x _ x2 he h6
    · rcases hcase h2 with ⟨rfl, rfl⟩ | ⟨h5, h6⟩
      · exact h.apart _ x' _ x h4 he
      · exact h.apart _ _ _ _ h4 h6

theorem cut_string {w : World} {e gl off c f t : Nat} {s : ByteArray} (z0 : w.cell? ⟨e, 0, none⟩ = some (.int .i64 1)) (z1 : w.cell? ⟨e, 1, none⟩ = some (.slice (some ⟨gl, off, none⟩) 1 c)) (z2 : w.cell? ⟨gl, off, none⟩ = some (.string s)) (zf : w.frozen? ⟨gl, off, none⟩ = false)
    (h1 : f ≤ t) (h2 : t ≤ s.size) (h3 : s.size ≤ 1000000) :
    Calls Try.prog 36 #[.pointer (some ⟨e, 0, none⟩), .int .i64 f, .int .i64 t] w fun r w' => r = .returned (.tuple #[]) ∧ w' = (w.setCell ⟨gl, off, none⟩ (.string (s.extract f t))).drew := by
  go_enter Try.func36, Try.ntmps36
  go_wp2_with fail
  go_region
  go_end0
  exact ⟨rfl, rfl⟩

theorem cut_at {w : World} {e gl off c : Nat} {fi ti : Int} (f t : Nat) {s : ByteArray} (hfi : fi = f) (hti : ti = t) (z0 : w.cell? ⟨e, 0, none⟩ = some (.int .i64 1)) (z1 : w.cell? ⟨e, 1, none⟩ = some (.slice (some ⟨gl, off, none⟩) 1 c)) (z2 : w.cell? ⟨gl, off, none⟩ = some (.string s)) (zf : w.frozen? ⟨gl, off, none⟩ = false)
    (h1 : f ≤ t) (h2 : t ≤ s.size) (h3 : s.size ≤ 1000000) :
    Calls Try.prog 36 #[.pointer (some ⟨e, 0, none⟩), .int .i64 fi, .int .i64 ti] w fun r w' => r = .returned (.tuple #[]) ∧ w' = (w.setCell ⟨gl, off, none⟩ (.string (s.extract f t))).drew := by
  subst hfi
  subst hti
  exact cut_string z0 z1 z2 zf h1 h2 h3

/-- What Part leaves of n: from, to. -/
def partHi (n f t : Int) : Int := min (max (placeP n f) (placeP n t) + 1) n
def partLo (n f t : Int) : Int := min (max (min (placeP n f) (placeP n t)) 0) (partHi n f t)
theorem part_bounds (n : Nat) (f t : Int) : ∃ lo hi : Nat, partLo n f t = lo ∧ partHi n f t = hi ∧ lo ≤ hi ∧ hi ≤ n := by
  have h1 := placeP_ge n f (by omega)
  have h2 := placeP_ge n t (by omega)
  have h3 := placeP_le n f
  have h4 := placeP_le n t
  have h5 : partHi n f t = min (max (placeP n f) (placeP n t) + 1) n := rfl
  have h6 : partLo n f t = min (max (min (placeP n f) (placeP n t)) 0) (partHi n f t) := rfl
  refine ⟨(partLo n f t).toNat, (partHi n f t).toNat, ?_, ?_, ?_, ?_⟩ <;> omega
theorem Part_fin {base : Nat} {w wb wq w9 : World} {g b : Nat} {F : ByteArray → Option Nat} {sz : Nat} {E : Nat → Option EntS} (h0 : Sto base w g b F sz E) (hal : Below w.heap.size w wb) (hq : Below wb.heap.size wb wq) (h : Sto base wq g b F sz E) {e : Nat} {x : EntS} {t t' : ByteArray} (he : E e = some x) (hkd : x.kind = 1) (hL : x.L = [plain t]) (ht' : t'.size ≤ 1000000)
    {gl off c c5 : Nat} {cur : Array Value} {A5 : Option Addr} (hv : x.v = .slice (some ⟨gl, off, none⟩) 1 c) (hc : 1 ≤ c) (hc2 : c ≤ 9223372036854775807) (hlo : x.lo ≤ gl) (hhi : gl < x.hi) (hb : wq.heap[gl]? = some (.cells cur 61 (0, 0))) (hc5 : c5 ≤ 9223372036854775807)
    (hcell : ∀ (j : Nat) u, ((plain t).cells A5 c5)[j]? = some u → wq.cell? ⟨gl, off + j, none⟩ = some u) (hw : w9 = (wq.setCell ⟨gl, off, none⟩ (.string t')).drew) :
    Sto base w9 g b F sz (updE E e { x with L := [plain t'] }) ∧ Kept (fun k => x.lo ≤ k ∧ k < x.hi) w w9 := by
  have hk0 : Kept (fun k => k = gl) wq w9 := by
    rw [hw]
    exact ((Kept.refl (fun k => k = gl) wq).setCell (p := ⟨gl, off, none⟩) (.inl rfl) _).drew
  refine ⟨h.retext he hkd hL (by omega) hv hc hc2 hlo hhi hb hc5 hcell hk0 ?_, ?_⟩
  · rw [hw]
    exact blk_set hb off (.string t')
  · exact (Kept.of_below (S := fun _ => False) (below_self hal hq)).trans hk0 (fun _ _ h => h.elim) (fun i _ h => by rw [h]; exact ⟨hlo, hhi⟩)
theorem Part_string {base : Nat} {w : World} {g b : Nat} {F : ByteArray → Option Nat} {sz : Nat} {E : Nat → Option EntS} (h : Sto base w g b F sz E) (s : ByteArray) (hs : s.size ≤ 9223372036854775807) {e : Nat} {x : EntS} {t : ByteArray} (hf : F s = some e) (he : E e = some x) (hk : x.kind = 1) (hL : x.L = [plain t]) (htl : t.size ≤ 1000000) (f u : Int) (lo hi : Nat) (hlo : partLo t.size f u = lo) (hhi : partHi t.size f u = hi) :
    Calls Try.prog 12 #[.pointer (some ⟨g, 0, none⟩), .string s, .int .i64 f, .int .i64 u] w fun r w' => r = .returned (.int .i64 0) ∧ Sto base w' g b F sz (updE E e { x with L := [plain (t.extract lo hi)] }) ∧ Kept (fun k => x.lo ≤ k ∧ k < x.hi) w w' := by
  have hE := h.each e x he
  have H := hide h
  have HHF := hide hf
  have HEE := hide hE
  have HHE := hide he
  have HK := hide hk
  have HL := hide hL
  obtain ⟨pf, hpf⟩ : ∃ pf, pf = placeP t.size f := ⟨_, rfl⟩
  obtain ⟨pu, hpu⟩ : ∃ pu, pu = placeP t.size u := ⟨_, rfl⟩
  have p1 : -1 ≤ pf := by rw [hpf]; exact placeP_ge _ _ (by omega)
  have p2 : -1 ≤ pu := by rw [hpu]; exact placeP_ge _ _ (by omega)
  have p3 : pf ≤ t.size := by rw [hpf]; exact placeP_le _ _
  have p4 : pu ≤ t.size := by rw [hpu]; exact placeP_le _ _
  have hhi' : (hi : Int) = min (max pf pu + 1) t.size := by rw [hpf, hpu, ← hhi]; rfl
  have hlo' : (lo : Int) = min (max (min pf pu) 0) hi := by rw [hpf, hpu, ← hlo, ← hhi]; rfl
  have HPF := hide hpf
  have HPU := hide hpu
  clear h hE hf he hk hL hpf hpu hlo hhi
  go_enter Try.func12, Try.ntmps12
  go_upto_region 5 with (first
    | (go_at_call 33; refine (find_some H.out hs HHF.out).mono ?_; rintro e w' ⟨rfl, rfl⟩)
    | (go_at_call 34; refine (size_string HEE.out HK.out HL.out).mono ?_; rintro e w' ⟨rfl, rfl⟩))
  have hal : Below w.heap.size w (w.alloc (.cells #[.int .i64 t.size] 3)) := (Below.refl _ _).alloc (Nat.le_refl _) _
  have cb : (w.alloc (.cells #[.int .i64 t.size] 3)).cell? ⟨w.heap.size, 0, none⟩ = some (.int .i64 t.size) := by rw [blk_cell (blk_new w _)]; rfl
  have HAL := hide hal
  have HSB := hide (H.out.below hal)
  generalize (w.alloc (.cells #[.int .i64 t.size] 3)) = wb at HAL HSB cb ⊢
  clear hal
  go_upto_region 7 with (go_at_call 35; refine (place_any _ _ t.size _ htl cb).mono ?_; rintro e w' ⟨rfl, rfl⟩)
  rw [← HPF.out, ← HPU.out]
  by_cases hsw : pu < pf
  · go_upto_region 9 with fail
    have C0 := cell_after cb
    by_cases ha : 0 ≤ pu
    · by_cases hb : pf + 1 ≤ t.size
      · have hw : IntKind.i64.wrap (pf + 1) = pf + 1 := by rw [IntKind.wrap_i64]; omega
        refine wp_region_after (by kernel_rfl) (by kernel_rfl) ?_
        repeat (go_big_quiet_step (fail))
        refine wpQuiet_nil ?_
        intro _ hw'
        obtain ⟨q, rfl⟩ := hw'
        have HQ := hide q.h
        clear C0 hw cb
        generalize q.W = wq at HQ ⊢
        have HSQ := hide (HSB.out.below HQ.out)
        have hEq := HSQ.out.each e x HHE.out
        obtain ⟨gl, off, cur, c, A5, c5, hv, hc, hc2, hg1, hg2, hbk, hc5, hcell⟩ := hEq.text_row HL.out
        obtain ⟨z0, z1⟩ := hEq.cells
        rw [HK.out] at z0
        rw [hv] at z1
        have z2 : wq.cell? ⟨gl, off, none⟩ = some (.string t) := hcell 0 _ rfl
        have zf : wq.frozen? ⟨gl, off, none⟩ = false := blk_frozen hbk
        have HV := hide hv
        have HC2 := hide hc2
        have HG1 := hide hg1
        have HG2 := hide hg2
        have HBK := hide hbk
        have HCELL := hide hcell
        have HC5 := hide hc5
        have HC1 := hide hc
        clear hEq hv hc hc2 hg1 hg2 hbk hcell hc5
        go_wp2_with (go_at_call 36; refine (cut_at (gl := gl) (off := off) (c := c) lo hi (s := t) (by omega) (by omega) z0 z1 z2 zf (by omega) (by omega) htl).mono ?_; rintro r w9 ⟨rfl, q⟩; have HW := hide q; clear q)
        go_ret
        exact ⟨rfl, Part_fin H.out (HAL.out) HQ.out HSQ.out HHE.out HK.out HL.out (Nat.le_trans (by rw [ByteArray.size_extract]; omega) htl) HV.out HC1.out HC2.out HG1.out HG2.out HBK.out HC5.out HCELL.out HW.out⟩
      · have hw : IntKind.i64.wrap (pf + 1) = pf + 1 := by rw [IntKind.wrap_i64]; omega
        refine wp_region_after (by kernel_rfl) (by kernel_rfl) ?_
        repeat (go_big_quiet_step (fail))
        refine wpQuiet_nil ?_
        intro _ hw'
        obtain ⟨q, rfl⟩ := hw'
        have HQ := hide q.h
        clear C0 hw cb
        generalize q.W = wq at HQ ⊢
        have HSQ := hide (HSB.out.below HQ.out)
        have hEq := HSQ.out.each e x HHE.out
        obtain ⟨gl, off, cur, c, A5, c5, hv, hc, hc2, hg1, hg2, hbk, hc5, hcell⟩ := hEq.text_row HL.out
        obtain ⟨z0, z1⟩ := hEq.cells
        rw [HK.out] at z0
        rw [hv] at z1
        have z2 : wq.cell? ⟨gl, off, none⟩ = some (.string t) := hcell 0 _ rfl
        have zf : wq.frozen? ⟨gl, off, none⟩ = false := blk_frozen hbk
        have HV := hide hv
        have HC2 := hide hc2
        have HG1 := hide hg1
        have HG2 := hide hg2
        have HBK := hide hbk
        have HCELL := hide hcell
        have HC5 := hide hc5
        have HC1 := hide hc
        clear hEq hv hc hc2 hg1 hg2 hbk hcell hc5
        go_wp2_with (go_at_call 36; refine (cut_at (gl := gl) (off := off) (c := c) lo hi (s := t) (by omega) (by omega) z0 z1 z2 zf (by omega) (by omega) htl).mono ?_; rintro r w9 ⟨rfl, q⟩; have HW := hide q; clear q)
        go_ret
        exact ⟨rfl, Part_fin H.out (HAL.out) HQ.out HSQ.out HHE.out HK.out HL.out (Nat.le_trans (by rw [ByteArray.size_extract]; omega) htl) HV.out HC1.out HC2.out HG1.out HG2.out HBK.out HC5.out HCELL.out HW.out⟩
    · by_cases hb : pf + 1 ≤ t.size
      · have hw : IntKind.i64.wrap (pf + 1) = pf + 1 := by rw [IntKind.wrap_i64]; omega
        refine wp_region_after (by kernel_rfl) (by kernel_rfl) ?_
        repeat (go_big_quiet_step (fail))
        refine wpQuiet_nil ?_
        intro _ hw'
        obtain ⟨q, rfl⟩ := hw'
        have HQ := hide q.h
        clear C0 hw cb
        generalize q.W = wq at HQ ⊢
        have HSQ := hide (HSB.out.below HQ.out)
        have hEq := HSQ.out.each e x HHE.out
        obtain ⟨gl, off, cur, c, A5, c5, hv, hc, hc2, hg1, hg2, hbk, hc5, hcell⟩ := hEq.text_row HL.out
        obtain ⟨z0, z1⟩ := hEq.cells
        rw [HK.out] at z0
        rw [hv] at z1
        have z2 : wq.cell? ⟨gl, off, none⟩ = some (.string t) := hcell 0 _ rfl
        have zf : wq.frozen? ⟨gl, off, none⟩ = false := blk_frozen hbk
        have HV := hide hv
        have HC2 := hide hc2
        have HG1 := hide hg1
        have HG2 := hide hg2
        have HBK := hide hbk
        have HCELL := hide hcell
        have HC5 := hide hc5
        have HC1 := hide hc
        clear hEq hv hc hc2 hg1 hg2 hbk hcell hc5
        go_wp2_with (go_at_call 36; refine (cut_at (gl := gl) (off := off) (c := c) lo hi (s := t) (by omega) (by omega) z0 z1 z2 zf (by omega) (by omega) htl).mono ?_; rintro r w9 ⟨rfl, q⟩; have HW := hide q; clear q)
        go_ret
        exact ⟨rfl, Part_fin H.out (HAL.out) HQ.out HSQ.out HHE.out HK.out HL.out (Nat.le_trans (by rw [ByteArray.size_extract]; omega) htl) HV.out HC1.out HC2.out HG1.out HG2.out HBK.out HC5.out HCELL.out HW.out⟩
      · have hw : IntKind.i64.wrap (pf + 1) = pf + 1 := by rw [IntKind.wrap_i64]; omega
        refine wp_region_after (by kernel_rfl) (by kernel_rfl) ?_
        repeat (go_big_quiet_step (fail))
        refine wpQuiet_nil ?_
        intro _ hw'
        obtain ⟨q, rfl⟩ := hw'
        have HQ := hide q.h
        clear C0 hw cb
        generalize q.W = wq at HQ ⊢
        have HSQ := hide (HSB.out.below HQ.out)
        have hEq := HSQ.out.each e x HHE.out
        obtain ⟨gl, off, cur, c, A5, c5, hv, hc, hc2, hg1, hg2, hbk, hc5, hcell⟩ := hEq.text_row HL.out
        obtain ⟨z0, z1⟩ := hEq.cells
        rw [HK.out] at z0
        rw [hv] at z1
        have z2 : wq.cell? ⟨gl, off, none⟩ = some (.string t) := hcell 0 _ rfl
        have zf : wq.frozen? ⟨gl, off, none⟩ = false := blk_frozen hbk
        have HV := hide hv
        have HC2 := hide hc2
        have HG1 := hide hg1
        have HG2 := hide hg2
        have HBK := hide hbk
        have HCELL := hide hcell
        have HC5 := hide hc5
        have HC1 := hide hc
        clear hEq hv hc hc2 hg1 hg2 hbk hcell hc5
        go_wp2_with (go_at_call 36; refine (cut_at (gl := gl) (off := off) (c := c) lo hi (s := t) (by omega) (by omega) z0 z1 z2 zf (by omega) (by omega) htl).mono ?_; rintro r w9 ⟨rfl, q⟩; have HW := hide q; clear q)
        go_ret
        exact ⟨rfl, Part_fin H.out (HAL.out) HQ.out HSQ.out HHE.out HK.out HL.out (Nat.le_trans (by rw [ByteArray.size_extract]; omega) htl) HV.out HC1.out HC2.out HG1.out HG2.out HBK.out HC5.out HCELL.out HW.out⟩
  · go_upto_region 9 with fail
    have C0 := cell_after cb
    by_cases ha : 0 ≤ pf
    · by_cases hb : pu + 1 ≤ t.size
      · have hw : IntKind.i64.wrap (pu + 1) = pu + 1 := by rw [IntKind.wrap_i64]; omega
        refine wp_region_after (by kernel_rfl) (by kernel_rfl) ?_
        repeat (go_big_quiet_step (fail))
        refine wpQuiet_nil ?_
        intro _ hw'
        obtain ⟨q, rfl⟩ := hw'
        have HQ := hide q.h
        clear C0 hw cb
        generalize q.W = wq at HQ ⊢
        have HSQ := hide (HSB.out.below HQ.out)
        have hEq := HSQ.out.each e x HHE.out
        obtain ⟨gl, off, cur, c, A5, c5, hv, hc, hc2, hg1, hg2, hbk, hc5, hcell⟩ := hEq.text_row HL.out
        obtain ⟨z0, z1⟩ := hEq.cells
        rw [HK.out] at z0
        rw [hv] at z1
        have z2 : wq.cell? ⟨gl, off, none⟩ = some (.string t) := hcell 0 _ rfl
        have zf : wq.frozen? ⟨gl, off, none⟩ = false := blk_frozen hbk
        have HV := hide hv
        have HC2 := hide hc2
        have HG1 := hide hg1
        have HG2 := hide hg2
        have HBK := hide hbk
        have HCELL := hide hcell
        have HC5 := hide hc5
        have HC1 := hide hc
        clear hEq hv hc hc2 hg1 hg2 hbk hcell hc5
        go_wp2_with (go_at_call 36; refine (cut_at (gl := gl) (off := off) (c := c) lo hi (s := t) (by omega) (by omega) z0 z1 z2 zf (by omega) (by omega) htl).mono ?_; rintro r w9 ⟨rfl, q⟩; have HW := hide q; clear q)
        go_ret
        exact ⟨rfl, Part_fin H.out (HAL.out) HQ.out HSQ.out HHE.out HK.out HL.out (Nat.le_trans (by rw [ByteArray.size_extract]; omega) htl) HV.out HC1.out HC2.out HG1.out HG2.out HBK.out HC5.out HCELL.out HW.out⟩
      · have hw : IntKind.i64.wrap (pu + 1) = pu + 1 := by rw [IntKind.wrap_i64]; omega
        refine wp_region_after (by kernel_rfl) (by kernel_rfl) ?_
        repeat (go_big_quiet_step (fail))
        refine wpQuiet_nil ?_
        intro _ hw'
        obtain ⟨q, rfl⟩ := hw'
        have HQ := hide q.h
        clear C0 hw cb
        generalize q.W = wq at HQ ⊢
        have HSQ := hide (HSB.out.below HQ.out)
        have hEq := HSQ.out.each e x HHE.out
        obtain ⟨gl, off, cur, c, A5, c5, hv, hc, hc2, hg1, hg2, hbk, hc5, hcell⟩ := hEq.text_row HL.out
        obtain ⟨z0, z1⟩ := hEq.cells
        rw [HK.out] at z0
        rw [hv] at z1
        have z2 : wq.cell? ⟨gl, off, none⟩ = some (.string t) := hcell 0 _ rfl
        have zf : wq.frozen? ⟨gl, off, none⟩ = false := blk_frozen hbk
        have HV := hide hv
        have HC2 := hide hc2
        have HG1 := hide hg1
        have HG2 := hide hg2
        have HBK := hide hbk
        have HCELL := hide hcell
        have HC5 := hide hc5
        have HC1 := hide hc
        clear hEq hv hc hc2 hg1 hg2 hbk hcell hc5
        go_wp2_with (go_at_call 36; refine (cut_at (gl := gl) (off := off) (c := c) lo hi (s := t) (by omega) (by omega) z0 z1 z2 zf (by omega) (by omega) htl).mono ?_; rintro r w9 ⟨rfl, q⟩; have HW := hide q; clear q)
        go_ret
        exact ⟨rfl, Part_fin H.out (HAL.out) HQ.out HSQ.out HHE.out HK.out HL.out (Nat.le_trans (by rw [ByteArray.size_extract]; omega) htl) HV.out HC1.out HC2.out HG1.out HG2.out HBK.out HC5.out HCELL.out HW.out⟩
    · by_cases hb : pu + 1 ≤ t.size
      · have hw : IntKind.i64.wrap (pu + 1) = pu + 1 := by rw [IntKind.wrap_i64]; omega
        refine wp_region_after (by kernel_rfl) (by kernel_rfl) ?_
        repeat (go_big_quiet_step (fail))
        refine wpQuiet_nil ?_
        intro _ hw'
        obtain ⟨q, rfl⟩ := hw'
        have HQ := hide q.h
        clear C0 hw cb
        generalize q.W = wq at HQ ⊢
        have HSQ := hide (HSB.out.below HQ.out)
        have hEq := HSQ.out.each e x HHE.out
        obtain ⟨gl, off, cur, c, A5, c5, hv, hc, hc2, hg1, hg2, hbk, hc5, hcell⟩ := hEq.text_row HL.out
        obtain ⟨z0, z1⟩ := hEq.cells
        rw [HK.out] at z0
        rw [hv] at z1
        have z2 : wq.cell? ⟨gl, off, none⟩ = some (.string t) := hcell 0 _ rfl
        have zf : wq.frozen? ⟨gl, off, none⟩ = false := blk_frozen hbk
        have HV := hide hv
        have HC2 := hide hc2
        have HG1 := hide hg1
        have HG2 := hide hg2
        have HBK := hide hbk
        have HCELL := hide hcell
        have HC5 := hide hc5
        have HC1 := hide hc
        clear hEq hv hc hc2 hg1 hg2 hbk hcell hc5
        go_wp2_with (go_at_call 36; refine (cut_at (gl := gl) (off := off) (c := c) lo hi (s := t) (by omega) (by omega) z0 z1 z2 zf (by omega) (by omega) htl).mono ?_; rintro r w9 ⟨rfl, q⟩; have HW := hide q; clear q)
        go_ret
        exact ⟨rfl, Part_fin H.out (HAL.out) HQ.out HSQ.out HHE.out HK.out HL.out (Nat.le_trans (by rw [ByteArray.size_extract]; omega) htl) HV.out HC1.out HC2.out HG1.out HG2.out HBK.out HC5.out HCELL.out HW.out⟩
      · have hw : IntKind.i64.wrap (pu + 1) = pu + 1 := by rw [IntKind.wrap_i64]; omega
        refine wp_region_after (by kernel_rfl) (by kernel_rfl) ?_
        repeat (go_big_quiet_step (fail))
        refine wpQuiet_nil ?_
        intro _ hw'
        obtain ⟨q, rfl⟩ := hw'
        have HQ := hide q.h
        clear C0 hw cb
        generalize q.W = wq at HQ ⊢
        have HSQ := hide (HSB.out.below HQ.out)
        have hEq := HSQ.out.each e x HHE.out
        obtain ⟨gl, off, cur, c, A5, c5, hv, hc, hc2, hg1, hg2, hbk, hc5, hcell⟩ := hEq.text_row HL.out
        obtain ⟨z0, z1⟩ := hEq.cells
        rw [HK.out] at z0
        rw [hv] at z1
        have z2 : wq.cell? ⟨gl, off, none⟩ = some (.string t) := hcell 0 _ rfl
        have zf : wq.frozen? ⟨gl, off, none⟩ = false := blk_frozen hbk
        have HV := hide hv
        have HC2 := hide hc2
        have HG1 := hide hg1
        have HG2 := hide hg2
        have HBK := hide hbk
        have HCELL := hide hcell
        have HC5 := hide hc5
        have HC1 := hide hc
        clear hEq hv hc hc2 hg1 hg2 hbk hcell hc5
        go_wp2_with (go_at_call 36; refine (cut_at (gl := gl) (off := off) (c := c) lo hi (s := t) (by omega) (by omega) z0 z1 z2 zf (by omega) (by omega) htl).mono ?_; rintro r w9 ⟨rfl, q⟩; have HW := hide q; clear q)
        go_ret
        exact ⟨rfl, Part_fin H.out (HAL.out) HQ.out HSQ.out HHE.out HK.out HL.out (Nat.le_trans (by rw [ByteArray.size_extract]; omega) htl) HV.out HC1.out HC2.out HG1.out HG2.out HBK.out HC5.out HCELL.out HW.out⟩
end Go.Proofs.Ytbchokjhbjnfcaa
