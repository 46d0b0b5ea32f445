/- The store: what it is in memory; New, gone, find; own of one plain line; put. -/
import Derived.Test.YtbchokjhbjnfcaaS3
import Derived.OwnWalk
set_option linter.unusedVariables false
set_option linter.unusedSimpArgs false
namespace Go.Proofs.Ytbchokjhbjnfcaa
open Go.RowKit
set_option maxHeartbeats 1600000
set_option maxRecDepth 1000000

/-- A line that is a text. -/
def plain (t : ByteArray) : LineT := ⟨t, false, 0, 0, []⟩
/-- v reads as the lines L, in blocks between lo and hi. -/
def LinesAt (w : World) (lo hi : Nat) (v : Value) (L : List LineT) : Prop :=
  ∃ ok A c, v = .slice A L.length c ∧ L.length ≤ c ∧ c ≤ 9223372036854775807 ∧ lineK.Rd w ok A L.length L ∧ (∀ k, ok k → lo ≤ k ∧ k < hi) ∧ hi ≤ w.heap.size ∧ (0 < L.length → ∃ g off cur, A = some ⟨g, off, none⟩ ∧ w.heap[g]? = some (.cells cur 61 (0, 0)))
theorem LinesAt.step {w w' : World} {lo hi : Nat} {v : Value} {L : List LineT} (h : LinesAt w lo hi v L) (hsz : w.heap.size ≤ w'.heap.size) (hb : ∀ k, lo ≤ k → k < hi → w'.heap[k]? = w.heap[k]?) : LinesAt w' lo hi v L := by
  obtain ⟨ok, A, c, rfl, h1, h2, h3, h4, h5, h6⟩ := h
  refine ⟨ok, A, c, rfl, h1, h2, h3.step (fun k hk _ => hb k (h4 k hk).1 (h4 k hk).2), h4, Nat.le_trans h5 hsz, fun hp => ?_⟩
  obtain ⟨g, off, cur, rfl, hg⟩ := h6 hp
  obtain ⟨b, o, e, hok, -, -⟩ := h3.2 hp
  cases e
  exact ⟨_, _, cur, rfl, (hb _ (h4 _ hok).1 (h4 _ hok).2).trans hg⟩
/-- What an entry is. -/
structure EntS where
  kind : Int
  v : Value
  lo : Nat
  hi : Nat
  L : List LineT
structure EntAt (w : World) (e : Nat) (x : EntS) : Prop where
  blk : w.heap[e]? = some (.cells #[.int .i64 x.kind, x.v] 69 (0, 0))
  lines : LinesAt w x.lo x.hi x.v x.L
  kinds : x.kind = 1 ∨ x.kind = 2
  text : x.kind = 1 → ∃ t, x.L = [plain t]
  most : x.L.length ≤ 2000
theorem EntAt.kept {w w' : World} {e : Nat} {x : EntS} {S : Nat → Prop} (h : EntAt w e x) (hk : Kept S w w') (h1 : ¬ S e) (h2 : ∀ k, x.lo ≤ k → k < x.hi → ¬ S k) : EntAt w' e x := by
  have hhi : x.hi ≤ w.heap.size := by
    obtain ⟨ok, A, c, -, -, -, -, -, h5, -⟩ := h.lines
    exact h5
  exact ⟨blk_kept h.blk hk h1, h.lines.step hk.size (fun k ha hb => hk.block k (by omega) (h2 k ha hb)), h.kinds, h.text, h.most⟩
/-- A store at block g: its map at b leads as F says; the entries are as E says. -/
structure Sto (base : Nat) (w : World) (g b : Nat) (F : ByteArray → Option Nat) (sz : Nat) (E : Nat → Option EntS) : Prop where
  blk : w.heap[g]? = some (.cells #[.map (some b)] 49 (0, 0))
  map : MapIs w b F sz
  ent : ∀ s e, F s = some e → ∃ x, E e = some x
  each : ∀ e x, E e = some x → EntAt w e x
  low : ∀ e x, E e = some x → base ≤ e ∧ base ≤ x.lo ∧ b < x.lo ∧ g < x.lo
  apart : ∀ e x e' x', E e = some x → E e' = some x' → (e < x'.lo ∨ x'.hi ≤ e) ∧ (e ≠ e' → x.hi ≤ x'.lo ∨ x'.hi ≤ x.lo)
  hg : base ≤ g
  hb : base ≤ b
namespace Sto
variable {base : Nat} {w w' : World} {g b : Nat} {F : ByteArray → Option Nat} {sz : Nat} {E : Nat → Option EntS}
theorem c0 (h : Sto base w g b F sz E) : w.cell? ⟨g, 0, none⟩ = some (.map (some b)) := by rw [blk_cell h.blk]; rfl
theorem lt (h : Sto base w g b F sz E) : g < w.heap.size := blk_lt h.blk
theorem below (h : Sto base w g b F sz E) (hb : Below w.heap.size w w') : Sto base w' g b F sz E :=
  ⟨blk_below h.blk hb h.lt, h.map.below hb, h.ent, fun e x he => (h.each e x he).kept (Kept.of_below (S := fun _ => False) hb) (fun h => h) (fun _ _ _ h => h), h.low, h.apart, h.hg, h.hb⟩
theorem ne_ent (h : Sto base w g b F sz E) {e : Nat} {x : EntS} (he : E e = some x) : e ≠ g ∧ e ≠ b := by
  refine ⟨fun e' => ?_, fun e' => ?_⟩
  · have h1 := (h.each e x he).blk
    exact blk_ne h1 h.blk (by decide) e'
  · obtain ⟨es, clock, h1⟩ := h.map.block
    have h2 := (h.each e x he).blk
    rw [e', h1] at h2
    cases h2
theorem gb (h : Sto base w g b F sz E) : g ≠ b := by
  intro e'
  obtain ⟨es, clock, h1⟩ := h.map.block
  have h2 := h.blk
  rw [e', h1] at h2
  cases h2
end Sto

theorem new_any (w : World) : Calls Try.prog 10 #[] w fun e w' => e = .returned (.pointer (some ⟨w.heap.size + 1, 0, none⟩)) ∧ w' = (w.alloc (.map #[] 0)).alloc (.cells #[.map (some w.heap.size)] 49) := by
  have hmm := @run_makeMap Try.prog
  go_enter Try.func10, Try.ntmps10
  go_wp2
  go_ret
  exact ⟨rfl, rfl⟩
theorem new_sto (w : World) : Sto w.heap.size ((w.alloc (.map #[] 0)).alloc (.cells #[.map (some w.heap.size)] 49)) (w.heap.size + 1) w.heap.size (fun _ => none) 0 (fun _ => none) := by
  have hb := blk_new (w.alloc (.map #[] 0)) (.cells #[.map (some w.heap.size)] 49)
  refine ⟨by simpa using hb, (MapIs.made w).below ((Below.refl _ _).alloc (Nat.le_refl _) _), fun s e h => (by cases h), fun e x h => (by cases h), fun e x h => (by cases h), fun e x e' x' h => (by cases h), by omega, Nat.le_refl _⟩

theorem eql_map (w : World) (o : Option Nat) : (binOp .eql 47 (.map o) (.map none)).run Try.prog w = .ok (.bool o.isNone) w := by
  have h : ∀ d : Nat, (Op.equalIn (d + 1) 47 (.map o) (.map none)).run Try.prog w = .ok o.isNone w := fun d => by
    cases o <;> simp [Op.equalIn, run_underlying Try.underlying47]
  simp only [binOp]
  simp [Op.equal, Op.maxDepth, h 9999]
theorem gone_some (w : World) (g b : Nat) (h : w.cell? ⟨g, 0, none⟩ = some (.map (some b))) : Calls Try.prog 29 #[.pointer (some ⟨g, 0, none⟩)] w fun e w' => e = .returned (.bool false) ∧ w = w' := by
  have heq := fun W => eql_map W (some b)
  go_enter Try.func29, Try.ntmps29
  go_wp2
  go_ret
  exact ⟨rfl, rfl⟩

theorem find_some {base : Nat} {w : World} {g b : Nat} {F : ByteArray → Option Nat} {sz : Nat} {E : Nat → Option EntS} (h : Sto base w g b F sz E) {s : ByteArray} (hs : s.size ≤ 9223372036854775807) {e : Nat} (hf : F s = some e) :
    Calls Try.prog 33 #[.pointer (some ⟨g, 0, none⟩), .string s] w fun r w' => r = .returned (.tuple #[.pointer (some ⟨e, 0, none⟩), .int .i64 0]) ∧ w = w' := by
  have c0 := h.c0
  have hl := h.map.look hs
  rw [hf] at hl
  have hl2 : (Instr.lookup 47 (.map (some b)) (.string s) false).run Try.prog w = .ok (.pointer (some ⟨e, 0, none⟩)) w := hl
  clear hl h hf
  go_enter Try.func33, Try.ntmps33
  go_wp2_with (go_at_call 29; refine (gone_some _ _ _ c0).mono ?_; rintro e w' ⟨rfl, rfl⟩)
  go_ret2
  exact ⟨rfl, rfl⟩
theorem find_none {base : Nat} {w : World} {g b : Nat} {F : ByteArray → Option Nat} {sz : Nat} {E : Nat → Option EntS} (h : Sto base w g b F sz E) {s : ByteArray} (hs : s.size ≤ 9223372036854775807) (hf : F s = none) :
    Calls Try.prog 33 #[.pointer (some ⟨g, 0, none⟩), .string s] w fun r w' => r = .returned (.tuple #[.pointer none, .int .i64 6]) ∧ w = w' := by
  have c0 := h.c0
  have hl := h.map.look hs
  rw [hf] at hl
  have hl2 : (Instr.lookup 47 (.map (some b)) (.string s) false).run Try.prog w = .ok (.pointer none) w := hl
  clear hl h hf
  go_enter Try.func33, Try.ntmps33
  go_wp2_with (go_at_call 29; refine (gone_some _ _ _ c0).mono ?_; rintro e w' ⟨rfl, rfl⟩)
  go_ret2
  exact ⟨rfl, rfl⟩

theorem row_boxes {w : World} {ok : Nat → Prop} {g c : Nat} {t : ByteArray} (h : lineK.RowAt 61 w ok g c [plain t]) (hok : ∀ k, ok k → k ≠ g) (A : Option Addr) (c' : Nat) (hc : c' ≤ 9223372036854775807) :
    lineK.RowAt 61 (w.setCell ⟨g, 4, none⟩ (.slice A 0 c')) ok g c [plain t] := by
  obtain ⟨cs, ⟨A5, c5, rfl, h1, -, -, -⟩, hcell⟩ := h.cells (i := 0) (by simp)
  have h2 : lineK.RowAt 61 (w.setCells g 0 ((plain t).cells A c')) ok g c [plain t] := by
    have := h.set (i := 0) (x := plain t) (cs := (plain t).cells A c') (by simp) ⟨A, c', rfl, h1, Nat.zero_le _, hc, Kind.Rd.nil _ _ _ _⟩ hok
    simpa using this
  obtain ⟨cur, hb, -⟩ := h
  have q0 : w.cell? ⟨g, 0, none⟩ = some (.string t) := hcell 0 _ rfl
  have q1 : w.cell? ⟨g, 1, none⟩ = some (.bool false) := hcell 1 _ rfl
  have q2 : w.cell? ⟨g, 2, none⟩ = some (.int .i64 0) := hcell 2 _ rfl
  have q3 : w.cell? ⟨g, 3, none⟩ = some (.int .i64 0) := hcell 3 _ rfl
  rw [blk_cell hb] at q0 q1 q2 q3
  clear hcell
  refine h2.step ?_ (fun k hk hl => ?_)
  · have e0 := blk_set hb 0 (.string t)
    have e1 := blk_set e0 1 (.bool false)
    have e2 := blk_set e1 2 (.int .i64 0)
    have e3 := blk_set e2 3 (.int .i64 0)
    have e4 := blk_set e3 4 (.slice A 0 c')
    have e5 : w.setCells g 0 ((plain t).cells A c') = ((((w.setCell ⟨g, 0, none⟩ (.string t)).setCell ⟨g, 1, none⟩ (.bool false)).setCell ⟨g, 2, none⟩ (.int .i64 0)).setCell ⟨g, 3, none⟩ (.int .i64 0)).setCell ⟨g, 4, none⟩ (.slice A 0 c') := by
      simp only [World.setCells, LineT.cells, plain, List.length_nil]
    rw [e5, e4, blk_set hb 4 (.slice A 0 c')]
    congr 2
    apply Array.ext_getElem?
    intro j
    obtain ⟨s0, v0⟩ := Array.getElem?_eq_some_iff.1 q0
    obtain ⟨s1, v1⟩ := Array.getElem?_eq_some_iff.1 q1
    obtain ⟨s2, v2⟩ := Array.getElem?_eq_some_iff.1 q2
    obtain ⟨s3, v3⟩ := Array.getElem?_eq_some_iff.1 q3
    clear e0 e1 e2 e3 e4 e5 h2
    simp only [Array.getElem?_setIfInBounds]
    rcases Nat.lt_or_ge j 5 with hj | hj
    · have : j = 0 ∨ j = 1 ∨ j = 2 ∨ j = 3 ∨ j = 4 := by omega
      rcases this with rfl | rfl | rfl | rfl | rfl
      · simp [s0, v0]
      · simp [s1, v1]
      · simp [s2, v2]
      · simp [s3, v3]
      · simp
    · rw [if_neg (by omega), if_neg (by omega), if_neg (by omega), if_neg (by omega), if_neg (by omega), if_neg (by omega)]
  · rw [setCells_other g _ _ w k (hok k hk)]
    exact Below.heap_setCell w _ _ k (hok k hk)

/-- own at one plain line. -/
theorem own_one (gl : Nat) (t : ByteArray) (ht : t.size ≤ 9223372036854775807) (w : World) (hb : w.heap[gl]? = some (.cells #[.string t, .bool false, .int .i64 0, .int .i64 0, .slice none 0 0] 61 (0, 0))) :
    Calls Try.prog 43 #[.slice (some ⟨gl, 0, none⟩) 1 1] w fun e w' => ∃ v, e = .returned v ∧ LinesAt w' w.heap.size w'.heap.size v [plain t] ∧ Below w.heap.size w w' := by
  have hr : lineK.Rd w (fun _ => True) (some ⟨gl, 0, none⟩) 1 [plain t] := by
    refine ⟨rfl, fun _ => ⟨gl, 0, rfl, trivial, blk_lt hb, fun i x hx => ?_⟩⟩
    have hi : i = 0 := by
      have := (List.getElem?_eq_some_iff.1 hx).1
      simp at this
      exact this
    subst hi
    injection hx with hx
    subst hx
    refine ⟨(plain t).cells none 0, ⟨none, 0, rfl, ht, Nat.le_refl _, by omega, Kind.Rd.nil _ _ _ _⟩, fun j u hu => ?_⟩
    rw [blk_cell hb]
    have : 0 + 0 * lineK.sz + j = j := by omega
    rw [this]
    simpa [LineT.cells, plain] using hu
  have HR := hide hr
  clear hr hb
  go_enter Try.func43, Try.ntmps43
  go_upto_region 2 with (go_at_call 54; refine (Clone_line _ 1 1 [plain t] _ _ HR.out (by omega)).mono ?_; rintro e w1 ⟨v1, rfl, q1, q2⟩; obtain ⟨A1, c1, rfl, hA1, hA2, -, -, -⟩ := Kind.Own.form q1; obtain ⟨g1, rfl, -, hg1, hrow⟩ := Kind.Own.rowAt q1 (by simp); have HROW := hide hrow; have HG1 := hide hg1; have Q2 := hide q2; have HC1 := hide hA1; have HC2 := hide hA2; clear q1 q2 hrow hA1 hA2 hg1)
  have hrow : lineK.RowAt 61 w1 (fun _ => False) g1 c1 [plain t] := by
    obtain ⟨cs, ⟨A5, c5, e5, -, -, h5, -⟩, -⟩ := HROW.out.cells (i := 0) (by simp)
    obtain ⟨cur, hb, h1, h2, h3, h4, h6⟩ := HROW.out
    refine ⟨cur, hb, h1, h2, h3, h4, fun i x hx => ?_⟩
    have hi : i = 0 := by
      have := (List.getElem?_eq_some_iff.1 hx).1
      simp at this
      exact this
    subst hi
    injection hx with hx
    subst hx
    obtain ⟨A6, c6, e6, h7, h8, h9, -⟩ := h6 0 _ rfl
    exact ⟨A6, c6, e6, h7, h8, h9, Kind.Rd.nil _ _ _ _⟩
  have HR1 := hide hrow
  clear hrow
  go_wp2_with fail
  go_loopw [4, 5, 10] (fun _ _ t10 wr => ∃ i : Nat, t10 = .int .i64 i ∧ i ≤ 1 ∧ Hid (lineK.RowAt 61 wr (fun _ => False) g1 c1 [plain t]) ∧ Hid (Below w.heap.size w wr)) (fun _ _ t10 _ => 1 - (intOf t10).toNat)
  case atStart => exact ⟨0, rfl, by omega, HR1, Q2⟩
  case round =>
    obtain ⟨i, rfl, hi, HRR, HK⟩ := hrel
    by_cases hlt : i < 1
    · have hi0 : i = 0 := by omega
      subst hi0
      obtain ⟨cs, ⟨A5, c5, rfl, -, -, hc5, -⟩, hcell⟩ := HRR.out.cells (i := 0) (by simp)
      have z4 : wr.cell? ⟨g1, 4, none⟩ = some (.slice A5 0 c5) := hcell 4 _ rfl
      have zf := HRR.out.frozen 4
      clear hcell
      go_upto_region 6 with (go_at_call 55
                             refine (Clone_box A5 0 c5 [] (fun _ => False) _ (Kind.Rd.nil _ _ _ _) (by omega)).mono ?_
                             rintro e w2 ⟨v2, rfl, q1, q2⟩
                             obtain ⟨A6, c6, rfl, -, hc6, -, -, -⟩ := Kind.Own.form q1
                             have hrow2 := HRR.out.below q2
                             have HRR2 := hide hrow2
                             have zf2 := hrow2.frozen 4
                             obtain ⟨cs2, ⟨A7, c7, rfl, -, -, -, -⟩, hcell2⟩ := hrow2.cells (i := 0) (by simp)
                             have z42 : w2.cell? ⟨g1, 4, none⟩ = some (.slice A7 0 c7) := hcell2 4 _ rfl
                             have Q3 := hide q2
                             have HC6 := hide hc6
                             clear q1 q2 hc6 hrow2 hcell2)
      have hm : maxLen = 9223372036854775807 := rfl
      have hrow3 := row_boxes HRR2.out (fun k h => h.elim) A6 c6 (by have := HC6.out; omega)
      have HRR3 := hide hrow3
      have hb3 : Below w.heap.size w (w2.setCell ⟨g1, 4, none⟩ (.slice A6 0 c6)) := Below.setCell (below_self HK.out Q3.out) HG1.out _
      have HB3 := hide hb3
      clear hrow3 hb3 hm z4 zf zf2 z42
      generalize (w2.setCell ⟨g1, 4, none⟩ (.slice A6 0 c6)) = w3 at HRR3 HB3 ⊢
      obtain ⟨cs, ⟨A8, c8, rfl, -, -, hc8, -⟩, hcell⟩ := HRR3.out.cells (i := 0) (by simp)
      have z4 : w3.cell? ⟨g1, 4, none⟩ = some (.slice A8 0 c8) := hcell 4 _ rfl
      clear hcell
      go_wp2_with fail
      go_loopw [29] (fun t29 wx => t29 = .int .i64 0 ∧ w3 = wx) (fun _ _ => 0)
      case atStart => exact ⟨rfl, rfl⟩
      case round =>
        obtain ⟨rfl, rfl⟩ := hrel
        go_wp2_with fail
        go_roundw
        case rel => exact ⟨1, rfl, by omega, HRR3, HB3⟩
        case measure => simp [intOf]
    · have hi1 : i = 1 := by omega
      subst hi1
      go_wp2_with fail
      go_ret
      refine ⟨_, rfl, ?_, HK.out⟩
      have hrow := HRR.out
      obtain ⟨cur, hb, -⟩ := id hrow
      have ho := hrow.own HG1.out
      obtain ⟨A9, c9, e9, h1, h2, -, -, h3⟩ := ho.form
      cases e9
      have hm : maxLen = 9223372036854775807 := rfl
      refine ⟨_, _, _, rfl, h1, by omega, h3.bound, fun k hk => ?_, Nat.le_refl _, fun _ => ⟨g1, 0, cur, rfl, hb⟩⟩
      obtain ⟨hk, hk2⟩ := hk
      rcases hk with hk | hk
      · exact hk.elim
      · have : g1 = k := Option.some.inj hk
        have := HG1.out
        omega
end Go.Proofs.Ytbchokjhbjnfcaa
