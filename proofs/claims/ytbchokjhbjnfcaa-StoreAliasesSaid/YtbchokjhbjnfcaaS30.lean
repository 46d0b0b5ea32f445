/- The store: deeds at a name that is there: what they leave is an entry as good. -/
import Derived.Test.YtbchokjhbjnfcaaS29
set_option linter.unusedVariables false
set_option linter.unusedSimpArgs false
namespace Go.Proofs.Ytbchokjhbjnfcaa
open Go.RowKit
set_option maxHeartbeats 1600000
set_option maxRecDepth 1000000
/-- A deed at an entry has left a good one. -/
def Did (base : Nat) (w : World) (g b : Nat) (F : ByteArray → Option Nat) (sz : Nat) (E : Nat → Option EntS) (e : Nat) (x : EntS) (en : Ending) (w' : World) : Prop :=
  ∃ (r : Int) (x' : EntS), en = .returned (.int .i64 r) ∧ Sto base w' g b F sz (updE E e x') ∧ Good x' ∧ Kept (fun k => k = e ∨ (x.lo ≤ k ∧ k < x.hi)) w w'
theorem updE_id {E : Nat → Option EntS} {e : Nat} {x : EntS} (h : E e = some x) : updE E e x = E := by
  funext k
  unfold updE
  split
  · rename_i h1; rw [h1, h]
  · rfl
theorem good_plain {x : EntS} {t : ByteArray} (h : x.L = [plain t]) (ht : t.size ≤ 2000) : Good x := ⟨fun _ y hy => by rw [h, List.mem_singleton] at hy; rw [hy]; exact ht, by rw [h]; exact fair_plain t⟩
theorem good_lines {x : EntS} (h : x.kind = 2) (hf : Fair x.L) : Good x := ⟨fun h1 => by rw [h] at h1; exact absurd h1 (by decide), hf⟩
section
variable {base : Nat} {w : World} {g b : Nat} {F : ByteArray → Option Nat} {sz : Nat} {E : Nat → Option EntS} {e : Nat} {x : EntS}
theorem did_same (h : Sto base w g b F sz E) (he : E e = some x) (hx : Good x) {r : Int} {w' : World} (hb : Below w.heap.size w w') : Did base w g b F sz E e x (.returned (.int .i64 r)) w' := ⟨r, x, rfl, by rw [updE_id he]; exact h.below hb, hx, Kept.of_below hb⟩
theorem Good.len {x : EntS} {w : World} {e : Nat} (h : Good x) (hE : EntAt w e x) : lenL x.kind x.L ≤ 1000000 := by
  rcases hE.kinds with hk | hk
  · obtain ⟨t, ht⟩ := hE.text hk
    rw [hk, ht, lenL_text]
    have := h.txt hk (plain t) (by rw [ht]; exact List.mem_singleton.2 rfl)
    have h2 : t.size ≤ 2000 := this
    omega
  · rw [hk, lenL_lines]; have := hE.most; omega
theorem good_cut {x x' : EntS} {w w' : World} {e : Nat} (h : Good x) (hE : EntAt w e x) (hk : x'.kind = x.kind) {lo hi : Nat} (hL : x'.L = cutL x.kind x.L lo hi) : Good x' := by
  rcases hE.kinds with h1 | h1
  · obtain ⟨t, ht⟩ := hE.text h1
    rw [h1, ht, cutL_text] at hL
    refine good_plain hL ?_
    have h2 : t.size ≤ 2000 := h.txt h1 (plain t) (by rw [ht]; exact List.mem_singleton.2 rfl)
    rw [ByteArray.size_extract]
    omega
  · rw [h1, cutL_lines] at hL
    refine good_lines (hk.trans h1) (fair_sub h.fair fun y hy => ?_)
    rw [hL] at hy
    exact List.mem_of_mem_take (List.mem_of_mem_drop hy)
theorem Define_did (h : Sto base w g b F sz E) (s t : ByteArray) (hs : s.size ≤ 9223372036854775807) (ht : t.size ≤ 9223372036854775807) (hnm : nameB s = true) (hf : F s = some e) (he : E e = some x) (hx : Good x) (hsz2 : sz ≤ 1000000) (hbase : base ≤ w.heap.size) :
    Calls Try.prog 11 #[.pointer (some ⟨g, 0, none⟩), .string s, .string t] w (Did base w g b F sz E e x) := by
  cases hfit : fitsB t with
  | false =>
    refine (Define_unfit h s t ht hfit).mono ?_
    rintro r w' ⟨rfl, rfl⟩
    exact did_same h he hx (Below.refl _ _)
  | true =>
    refine (Define_old h s t hs ht hfit hnm hf he hsz2 hbase).mono ?_
    rintro r w' ⟨rfl, x', h1, h2, h3, h4⟩
    exact ⟨0, x', rfl, h3, good_plain h2 (fits_size hfit), h4.mono (fun i _ h => .inl h)⟩
theorem Macro_did (h : Sto base w g b F sz E) (s : ByteArray) (hs : s.size ≤ 9223372036854775807) (A : Option Addr) (n c : Nat) (L : List LineT) (ok : Nat → Prop) (hr : lineK.Rd w ok A n L) (hn : n ≤ 9223372036854775807) (hfn : ∀ y ∈ L, ∀ z ∈ y.boxes, z.ns.length ≤ 17592186044416) (hok : ∀ k, ok k → k ≠ b) (hnm : nameB s = true) (hf : F s = some e) (he : E e = some x) (hx : Good x) (hsz2 : sz ≤ 1000000) (hbase : base ≤ w.heap.size) :
    Calls Try.prog 15 #[.pointer (some ⟨g, 0, none⟩), .string s, .slice A n c] w (Did base w g b F sz E e x) := by
  cases hall : L.all lineB with
  | false =>
    refine (Macro_bad h s A n c L ok hr hn hall).mono ?_
    rintro r w' ⟨rfl, q⟩
    exact did_same h he hx q
  | true =>
    have hfair := fair_good hall hfn
    by_cases h2 : 2000 < n
    · refine (Macro_long h s hs A n c L ok hr h2 hn hall hnm).mono ?_
      rintro r w' ⟨rfl, q⟩
      exact did_same h he hx q
    · refine (Macro_old h s hs A n c L ok hr (by omega) hfair hall hok hnm hf he hsz2 hbase).mono ?_
      rintro r w' ⟨rfl, x', h3, h4, h5, h6⟩
      exact ⟨0, x', rfl, h5, good_lines h3 (by rw [h4]; exact hfair), h6.mono (fun i _ h => .inl h)⟩
theorem Chop_did (h : Sto base w g b F sz E) (s : ByteArray) (hs : s.size ≤ 9223372036854775807) (hf : F s = some e) (he : E e = some x) (hx : Good x) :
    Calls Try.prog 45 #[.pointer (some ⟨g, 0, none⟩), .string s] w (Did base w g b F sz E e x) := by
  have hE := h.each e x he
  refine (Chop_any h s hs hf he (hx.len hE)).mono ?_
  rintro r w' ⟨rfl, x', h1, h2, h3, h4⟩
  exact ⟨0, x', rfl, h3, good_cut (w' := w') hx hE h1 h2, h4⟩
theorem Part_did (h : Sto base w g b F sz E) (s : ByteArray) (hs : s.size ≤ 9223372036854775807) (hf : F s = some e) (he : E e = some x) (hx : Good x) (f u : Int) :
    Calls Try.prog 12 #[.pointer (some ⟨g, 0, none⟩), .string s, .int .i64 f, .int .i64 u] w (Did base w g b F sz E e x) := by
  have hE := h.each e x he
  obtain ⟨lo, hi, h1, h2, -, -⟩ := part_bounds (lenL x.kind x.L) f u
  refine (Part_any h s hs hf he _ rfl (hx.len hE) f u lo hi h1 h2).mono ?_
  rintro r w' ⟨rfl, x', h1, h2, h3, h4⟩
  exact ⟨0, x', rfl, h3, good_cut (w' := w') hx hE h1 h2, h4⟩
end
end Go.Proofs.Ytbchokjhbjnfcaa
