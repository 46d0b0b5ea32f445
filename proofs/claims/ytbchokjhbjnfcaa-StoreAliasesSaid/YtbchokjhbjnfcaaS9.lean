/- The store: what is full, what is there already; Kind, Alias, Macro, Append, Rename as StoreFull asks them. -/
import Derived.Test.YtbchokjhbjnfcaaS7
set_option linter.unusedVariables false
set_option linter.unusedSimpArgs false
namespace Go.Proofs.Ytbchokjhbjnfcaa
open Go.RowKit
set_option maxHeartbeats 1600000
set_option maxRecDepth 1000000

section
variable {base : Nat} {w : World} {g b : Nat} {F : ByteArray → Option Nat} {sz : Nat} {E : Nat → Option EntS}
theorem look_none (h : Sto base w g b F sz E) {s : ByteArray} (hs : s.size ≤ 9223372036854775807) (hf : F s = none) : (Instr.lookup 47 (.map (some b)) (.string s) false).run Try.prog w = .ok (.pointer none) w := by
  have hl := h.map.look hs
  rw [hf] at hl
  exact hl
theorem put_full (h : Sto base w g b F sz E) (s : ByteArray) (hs : s.size ≤ 9223372036854775807) (kind : Int) (A : Option Addr) (n c : Nat) (hn : n ≤ 2000) (hf : F s = none) (hsz : 500 ≤ sz) (hsz2 : sz ≤ 1000000) :
    Calls Try.prog 32 #[.pointer (some ⟨g, 0, none⟩), .string s, .int .i64 kind, .slice A n c] w fun e w' => e = .returned (.int .i64 9) ∧ w = w' := by
  have c0 := h.c0
  have hl := h.map.look_ok hs
  rw [hf] at hl
  have hl2 : (Instr.lookup 47 (.map (some b)) (.string s) true).run Try.prog w = .ok (.tuple #[.pointer none, .bool false]) w := hl
  have hlen := fun ty => h.map.len ty
  clear hl h hf
  go_enter Try.func32, Try.ntmps32
  go_wp2_with fail
  go_ret
  exact ⟨rfl, rfl⟩
theorem put_old (h : Sto base w g b F sz E) (s : ByteArray) (hs : s.size ≤ 9223372036854775807) (kind : Int) (A : Option Addr) (n c : Nat) (L : List LineT) (hL : L.length = n) {e : Nat} {x0 : EntS}
    (hown : OwnOk (fun k => k = b) w (.slice A n c) L) (hkd : kind = 1 ∨ kind = 2) (htx : kind = 1 → ∃ t, L = [plain t]) (hn : n ≤ 2000) (hf : F s = some e) (he : E e = some x0) (hsz2 : sz ≤ 1000000) (hbase : base ≤ w.heap.size) :
    Calls Try.prog 32 #[.pointer (some ⟨g, 0, none⟩), .string s, .int .i64 kind, .slice A n c] w fun r w' => r = .returned (.int .i64 0) ∧ ∃ x, x.kind = kind ∧ x.L = L ∧ Sto base w' g b F sz (updE E e x) ∧ Kept (fun k => k = e) w w' := by
  have H := hide h
  have HOWN := hide hown
  have HE := hide he
  have c0 := h.c0
  have hl := h.map.look_ok hs
  rw [hf] at hl
  have hl2 : (Instr.lookup 47 (.map (some b)) (.string s) true).run Try.prog w = .ok (.tuple #[.pointer (some ⟨e, 0, none⟩), .bool true]) w := hl
  have hlen := fun ty => h.map.len ty
  obtain ⟨k0, A0, n0, c00, heb⟩ : ∃ k0 A0 n0 c00, w.heap[e]? = some (.cells #[.int .i64 k0, .slice A0 n0 c00] 69 (0, 0)) := by
    have hE := h.each e x0 he
    obtain ⟨ok0, A0, c00, hv, -⟩ := hE.lines
    have hb := hE.blk
    rw [hv] at hb
    exact ⟨_, _, _, _, hb⟩
  have HEB := hide heb
  have hn2 : L.length ≤ 2000 := by omega
  have HN2 := hide hn2
  clear hl hown h hf he hn2 heb
  go_enter Try.func32, Try.ntmps32
  go_wp2_with (first
    | (go_at_call 43
       refine (HOWN.out _ (Kept.refl _ _)).mono ?_
       rintro r w2 ⟨v2, rfl, q1, q2⟩
       obtain ⟨ok2, A2, c2, e2, -⟩ := id q1
       subst e2
       have hb2 := blk_below HEB.out q2 (blk_lt HEB.out)
       have z0 : w2.cell? ⟨e, 0, none⟩ = some (.int .i64 k0) := by rw [blk_cell hb2]; rfl
       have z1 : w2.cell? ⟨e, 1, none⟩ = some (.slice A0 n0 c00) := by rw [blk_cell hb2]; rfl
       have z2 : w2.frozen? ⟨e, 0, none⟩ = false := blk_frozen hb2
       have z3 : w2.frozen? ⟨e, 1, none⟩ = false := blk_frozen hb2
       have hbs := blk_set hb2 0 (.int .i64 kind)
       have z4 : (w2.setCell ⟨e, 0, none⟩ (.int .i64 kind)).cell? ⟨e, 1, none⟩ = some (.slice A0 n0 c00) := by rw [blk_cell hbs]; rfl
       have z5 : (w2.setCell ⟨e, 0, none⟩ (.int .i64 kind)).frozen? ⟨e, 1, none⟩ = false := blk_frozen hbs
       have HB2 := hide hb2
       have HL2 := hide q1
       have HW2 := hide q2
       clear q1 q2 hb2 hbs))
  go_ret
  subst hL
  have hlt := blk_lt HEB.out
  have hkw3 : Kept (fun k => k = e) w ((w2.setCell ⟨e, 0, none⟩ (.int .i64 kind)).setCell ⟨e, 1, none⟩ (.slice A2 L.length c2)) := ((Kept.of_below (S := fun k => k = e) HW2.out).setCell (p := ⟨e, 0, none⟩) (.inl rfl) _).setCell (p := ⟨e, 1, none⟩) (.inl rfl) _
  have hb3 := blk_set (blk_set HB2.out 0 (.int .i64 kind)) 1 (.slice A2 L.length c2)
  have hlin : LinesAt ((w2.setCell ⟨e, 0, none⟩ (.int .i64 kind)).setCell ⟨e, 1, none⟩ (.slice A2 L.length c2)) w.heap.size w2.heap.size (.slice A2 L.length c2) L :=
    HL2.out.step (by simp [World.setCell]) (fun k h1 h2 => (Below.heap_setCell _ _ _ _ (by show k ≠ e; omega)).trans (Below.heap_setCell _ _ _ _ (by show k ≠ e; omega)))
  have hne := (H.out.ne_ent HE.out).2
  have hmp : MapIs ((w2.setCell ⟨e, 0, none⟩ (.int .i64 kind)).setCell ⟨e, 1, none⟩ (.slice A2 L.length c2)) b F sz := by
    refine (H.out.map.below HW2.out).step ?_
    exact (Below.heap_setCell _ _ _ _ (fun e' => hne e'.symm)).trans (Below.heap_setCell _ _ _ _ (fun e' => hne e'.symm))
  refine ⟨rfl, ⟨kind, .slice A2 L.length c2, w.heap.size, w2.heap.size, L⟩, rfl, rfl, ?_, hkw3⟩
  exact H.out.put (hkw3.mono (fun i _ h => .inr h)) hmp ⟨hb3, hlin, hkd, htx, HN2.out⟩ ((H.out.low e x0 HE.out).1) (Nat.le_refl _) hlt (fun t e' ht => .inl ht) (H.out.ne_ent HE.out).1 (fun e' x' he' => (H.out.apart e x0 e' x' HE.out he').1)

theorem Define_name (h : Sto base w g b F sz E) (s t : ByteArray) (hs : s.size ≤ 9223372036854775807) (ht : t.size ≤ 9223372036854775807) (hfit : fitsB t = true) (hnm : nameB s = false) :
    Calls Try.prog 11 #[.pointer (some ⟨g, 0, none⟩), .string s, .string t] w fun e w' => e = .returned (.int .i64 6) ∧ Below w.heap.size w w' := by
  have c0 := h.c0
  have HFIT := hide hfit
  have HNM := hide hnm
  clear h hfit hnm
  go_enter Try.func11, Try.ntmps11
  go_wp2_with (first
    | (go_at_call 29; refine (gone_some _ _ _ c0).mono ?_; rintro e w' ⟨rfl, rfl⟩)
    | (go_at_call 30; refine (fits_any _ _ ht).mono ?_; rw [HFIT.out]; rintro e w' ⟨rfl, rfl⟩)
    | (go_at_call 31; refine (named_any _ _ hs).mono ?_; rw [HNM.out]; rintro e w1 ⟨rfl, q⟩; have Q1 := hide q; clear q))
  go_ret
  exact ⟨rfl, Q1.out⟩
theorem Define_full (h : Sto base w g b F sz E) (s t : ByteArray) (hs : s.size ≤ 9223372036854775807) (ht : t.size ≤ 9223372036854775807) (hfit : fitsB t = true) (hnm : nameB s = true) (hf : F s = none) (hsz : 500 ≤ sz) (hsz2 : sz ≤ 1000000) :
    Calls Try.prog 11 #[.pointer (some ⟨g, 0, none⟩), .string s, .string t] w fun e w' => e = .returned (.int .i64 9) ∧ Below w.heap.size w w' := by
  have H := hide h
  have c0 := h.c0
  have HFIT := hide hfit
  have HNM := hide hnm
  have HHF := hide hf
  clear h hfit hnm hf
  go_enter Try.func11, Try.ntmps11
  go_wp2_with (first
    | (go_at_call 29; refine (gone_some _ _ _ c0).mono ?_; rintro e w' ⟨rfl, rfl⟩)
    | (go_at_call 30; refine (fits_any _ _ ht).mono ?_; rw [HFIT.out]; rintro e w' ⟨rfl, rfl⟩)
    | (go_at_call 31; refine (named_any _ _ hs).mono ?_; rw [HNM.out]; rintro e w1 ⟨rfl, q⟩; have H1 := hide (H.out.below q); have Q1 := hide q; clear q)
    | (go_at_call 32; refine (put_full (H1.out.below ((Below.refl _ _).alloc (Nat.le_refl _) _)) s hs 1 _ 1 1 (by omega) HHF.out hsz hsz2).mono ?_; rintro e w2 ⟨rfl, rfl⟩))
  go_ret
  exact ⟨rfl, below_self Q1.out ((Below.refl _ _).alloc (Nat.le_refl _) _)⟩
theorem Define_old (h : Sto base w g b F sz E) (s t : ByteArray) (hs : s.size ≤ 9223372036854775807) (ht : t.size ≤ 9223372036854775807) (hfit : fitsB t = true) (hnm : nameB s = true) {e : Nat} {x0 : EntS} (hf : F s = some e) (he : E e = some x0) (hsz2 : sz ≤ 1000000) (hbase : base ≤ w.heap.size) :
    Calls Try.prog 11 #[.pointer (some ⟨g, 0, none⟩), .string s, .string t] w fun r w' => r = .returned (.int .i64 0) ∧ ∃ x, x.kind = 1 ∧ x.L = [plain t] ∧ Sto base w' g b F sz (updE E e x) ∧ Kept (fun k => k = e) w w' := by
  have H := hide h
  have c0 := h.c0
  have HFIT := hide hfit
  have HNM := hide hnm
  have HHF := hide hf
  have HE := hide he
  clear h hfit hnm hf he
  go_enter Try.func11, Try.ntmps11
  go_wp2_with (first
    | (go_at_call 29; refine (gone_some _ _ _ c0).mono ?_; rintro e w' ⟨rfl, rfl⟩)
    | (go_at_call 30; refine (fits_any _ _ ht).mono ?_; rw [HFIT.out]; rintro e w' ⟨rfl, rfl⟩)
    | (go_at_call 31; refine (named_any _ _ hs).mono ?_; rw [HNM.out]; rintro e w1 ⟨rfl, q⟩; have H1 := hide (H.out.below q); have Q1 := hide q; clear q)
    | (go_at_call 32
       refine (put_old (H1.out.below ((Below.refl _ _).alloc (Nat.le_refl _) _)) s hs 1 _ 1 1 [plain t] rfl ?_ (.inl rfl) (fun _ => ⟨t, rfl⟩) (by omega) HHF.out HE.out hsz2 (Nat.le_trans hbase (Nat.le_trans Q1.out.size (by simp)))).mono ?_
       · intro W hk
         exact own_one w1.heap.size t ht W (blk_kept (blk_new w1 _) hk (fun e => by have := H1.out.map.lt; omega))
       rintro r w2 ⟨rfl, x, hx1, hx2, hst, hkp⟩
       have HX1 := hide hx1
       have HX2 := hide hx2
       have HST := hide hst
       have HKP := hide hkp
       clear hx1 hx2 hst hkp))
  go_ret
  refine ⟨rfl, x, HX1.out, HX2.out, HST.out, ?_⟩
  exact ((Kept.of_below (S := fun k => k = e) Q1.out).trans (kept_new w1 _ (fun k => k = e)) (fun _ _ h => h) (fun _ _ h => h)).trans HKP.out (fun _ _ h => h) (fun _ _ h => h)

theorem Kind_none (h : Sto base w g b F sz E) (s : ByteArray) (hs : s.size ≤ 9223372036854775807) (hf : F s = none) :
    Calls Try.prog 25 #[.pointer (some ⟨g, 0, none⟩), .string s] w fun r w' => r = .returned (.int .i64 0) ∧ w = w' := by
  have c0 := h.c0
  have hl := h.map.look hs
  rw [hf] at hl
  have hl2 : (Instr.lookup 47 (.map (some b)) (.string s) false).run Try.prog w = .ok (.pointer none) w := hl
  clear hl h hf
  go_enter Try.func25, Try.ntmps25
  go_wp2_with (go_at_call 29; refine (gone_some _ _ _ c0).mono ?_; rintro e w' ⟨rfl, rfl⟩)
  go_ret
  exact ⟨rfl, rfl⟩
theorem Append_full (h : Sto base w g b F sz E) (s t : ByteArray) (hs : s.size ≤ 9223372036854775807) (ht : t.size ≤ 9223372036854775807) (hfit : fitsB t = true) (hnm : nameB s = true) (hf : F s = none) (hsz : 500 ≤ sz) (hsz2 : sz ≤ 1000000) :
    Calls Try.prog 16 #[.pointer (some ⟨g, 0, none⟩), .string s, .string t] w fun e w' => e = .returned (.int .i64 9) ∧ Below w.heap.size w w' := by
  have H := hide h
  have c0 := h.c0
  have HFIT := hide hfit
  have HNM := hide hnm
  have HHF := hide hf
  clear h hfit hnm hf
  go_enter Try.func16, Try.ntmps16
  go_wp2_with (first
    | (go_at_call 29; refine (gone_some _ _ _ c0).mono ?_; rintro e w' ⟨rfl, rfl⟩)
    | (go_at_call 30; refine (fits_any _ _ ht).mono ?_; rw [HFIT.out]; rintro e w' ⟨rfl, rfl⟩)
    | (go_at_call 31; refine (named_any _ _ hs).mono ?_; rw [HNM.out]; rintro e w1 ⟨rfl, q⟩; have H1 := hide (H.out.below q); have Q1 := hide q; clear q)
    | (go_at_call 25; refine (Kind_none H1.out s hs HHF.out).mono ?_; rintro e w2 ⟨rfl, rfl⟩)
    | (go_at_call 11; refine (Define_full H1.out s t hs ht HFIT.out HNM.out HHF.out hsz hsz2).mono ?_; rintro e w2 ⟨rfl, q⟩; have Q2 := hide q; clear q))
  go_ret
  exact ⟨rfl, below_self Q1.out Q2.out⟩
theorem Alias_full (h : Sto base w g b F sz E) (s old : ByteArray) (hs : s.size ≤ 9223372036854775807) (ho : old.size ≤ 9223372036854775807) (hnm : nameB s = true) {e : Nat} (hf : F s = none) (hfo : F old = some e) (hsz : 500 ≤ sz) (hsz2 : sz ≤ 1000000) :
    Calls Try.prog 14 #[.pointer (some ⟨g, 0, none⟩), .string s, .string old] w fun e w' => e = .returned (.int .i64 9) ∧ Below w.heap.size w w' := by
  have H := hide h
  have HNM := hide hnm
  have HHF := hide hf
  have HFO := hide hfo
  have hne : (s.toList == old.toList) = false := by
    rw [beq_eq_false_iff_ne]
    intro e'
    rw [Lib.toList_data, Lib.toList_data] at e'
    have := WideShapes.bytes_inj e'
    subst this
    rw [hf] at hfo
    cases hfo
  clear h hnm hf hfo
  go_enter Try.func14, Try.ntmps14
  go_wp2_with (first
    | (go_at_call 33; refine (find_some H.out ho HFO.out).mono ?_; rintro r w' ⟨rfl, rfl⟩)
    | (go_at_call 31; refine (named_any _ _ hs).mono ?_; rw [HNM.out]; rintro r w1 ⟨rfl, q⟩; have c0 := (H.out.below q).c0; have hl2 := look_none (H.out.below q) hs HHF.out; have hlen := fun ty => (H.out.below q).map.len ty; have Q1 := hide q; clear q))
  go_ret
  exact ⟨rfl, Q1.out⟩
end
end Go.Proofs.Ytbchokjhbjnfcaa
