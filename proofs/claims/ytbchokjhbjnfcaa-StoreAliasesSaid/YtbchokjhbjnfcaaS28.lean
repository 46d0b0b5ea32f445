/- The store: size and cut of any entry; Chop, Part at a name that is there. -/
import Derived.Test.YtbchokjhbjnfcaaS27
set_option linter.unusedVariables false
set_option linter.unusedSimpArgs false
namespace Go.Proofs.Ytbchokjhbjnfcaa
open Go.RowKit
set_option maxHeartbeats 3200000
set_option maxRecDepth 1000000

/-- How many bytes or lines an entry has. -/
def lenL (kind : Int) (L : List LineT) : Nat := if kind = 1 then (match L with | [] => 0 | y :: _ => y.text.size) else L.length
/-- What a cut leaves of an entry. -/
def cutL (kind : Int) (L : List LineT) (lo hi : Nat) : List LineT := if kind = 1 then (match L with | [] => [] | y :: _ => [plain (y.text.extract lo hi)]) else (L.take hi).drop lo
theorem lenL_text (t : ByteArray) : lenL 1 [plain t] = t.size := rfl
theorem lenL_lines (L : List LineT) : lenL 2 L = L.length := rfl
theorem cutL_text (t : ByteArray) (lo hi : Nat) : cutL 1 [plain t] lo hi = [plain (t.extract lo hi)] := rfl
theorem cutL_lines (L : List LineT) (lo hi : Nat) : cutL 2 L lo hi = (L.take hi).drop lo := rfl
/-- An entry as the law needs it. -/
structure Good (x : EntS) : Prop where
  txt : x.kind = 1 → ∀ y ∈ x.L, y.text.size ≤ 2000
  fair : Fair x.L
theorem size_macro {w : World} {e : Nat} {x : EntS} (hE : EntAt w e x) (hk : x.kind = 2) :
    Calls Try.prog 34 #[.pointer (some ⟨e, 0, none⟩)] w fun r w' => r = .returned (.int .i64 x.L.length) ∧ w = w' := by
  obtain ⟨z0, z1⟩ := hE.cells
  obtain ⟨ok, A, c, hv, -⟩ := hE.lines
  rw [hk] at z0
  rw [hv] at z1
  obtain ⟨n, hn⟩ : ∃ n, n = x.L.length := ⟨_, rfl⟩
  rw [← hn] at z1 ⊢
  clear hE hk hv hn
  go_enter Try.func34, Try.ntmps34
  go_wp2_with fail
  go_ret
  exact ⟨rfl, rfl⟩
theorem size_any {w : World} {e : Nat} {x : EntS} (hE : EntAt w e x) :
    Calls Try.prog 34 #[.pointer (some ⟨e, 0, none⟩)] w fun r w' => r = .returned (.int .i64 (lenL x.kind x.L)) ∧ w = w' := by
  rcases hE.kinds with hk | hk
  · obtain ⟨t, ht⟩ := hE.text hk
    rw [hk, ht]
    exact size_string hE hk ht
  · rw [hk]
    exact size_macro hE hk
theorem slice_mid (W : World) (A : Option Addr) (n c f t : Nat) (h1 : f ≤ t) (h2 : t ≤ c) : (Instr.slice 37 (.slice A n c) (some (.int .i64 (f : Int))) (some (.int .i64 (t : Int))) none).run Try.prog W = .ok (.slice (cutA A c f) (t - f) (c - f)) W := by
  rw [run_slice_lh W 37 A n c Try.underlying37 .i64 .i64 (f : Int) (t : Int) (by omega) (by omega) (by omega), elem_lines, sizeOf_line]
  rfl
theorem cut_macro {w : World} {e c f t n : Nat} {A : Option Addr} (z0 : w.cell? ⟨e, 0, none⟩ = some (.int .i64 2)) (z1 : w.cell? ⟨e, 1, none⟩ = some (.slice A n c)) (zf : w.frozen? ⟨e, 1, none⟩ = false) (h1 : f ≤ t) (h2 : t ≤ c) :
    Calls Try.prog 36 #[.pointer (some ⟨e, 0, none⟩), .int .i64 f, .int .i64 t] w fun r w' => r = .returned (.tuple #[]) ∧ w' = w.setCell ⟨e, 1, none⟩ (.slice (cutA A c f) (t - f) (c - f)) := by
  have hs := fun W => slice_mid W A n c f t h1 h2
  obtain ⟨A7, hA7⟩ : ∃ A7, A7 = cutA A c f := ⟨_, rfl⟩
  obtain ⟨n7, hn7⟩ : ∃ n7, n7 = t - f := ⟨_, rfl⟩
  obtain ⟨c7, hc7⟩ : ∃ c7, c7 = c - f := ⟨_, rfl⟩
  rw [← hA7, ← hn7, ← hc7] at hs ⊢
  clear hA7 hn7 hc7
  go_enter Try.func36, Try.ntmps36
  go_wp2_with fail
  go_end0
  exact ⟨rfl, rfl⟩
section
variable {base : Nat} {w w' : World} {g b : Nat} {F : ByteArray → Option Nat} {sz : Nat} {E : Nat → Option EntS}
theorem Sto.reval (h : Sto base w g b F sz E) {e : Nat} {x x' : EntS} (he : E e = some x) (hlo : x'.lo = x.lo) (hhi : x'.hi = x.hi) (hk : Kept (fun k => k = e) w w') (hx : EntAt w' e x') : Sto base w' g b F sz (updE E e x') := by
  have hlow := h.low e x he
  have hne := h.ne_ent he
  have hcase : ∀ {e' y}, updE E e x' e' = some y → (e' = e ∧ y = x') ∨ (e' ≠ e ∧ E e' = some y) := by
    intro e' y h'
    by_cases he : e' = e
    · subst he
      rw [updE_same] at h'
      injection h' with h'
      exact .inl ⟨rfl, h'.symm⟩
    · rw [updE_other _ _ he] at h'
      exact .inr ⟨he, h'⟩
  refine ⟨blk_kept h.blk hk (fun h => hne.1 h.symm), h.map.step (hk.block b h.map.lt (fun h => hne.2 h.symm)), fun s e' hs => ?_, fun e' y h' => ?_, fun e' y h' => ?_, fun e' y e2 y2 h' h2 => ?_, h.hg, h.hb⟩
  · obtain ⟨y, hy⟩ := h.ent s e' hs
    by_cases he : e' = e
    · subst he; exact ⟨_, updE_same _ _ _⟩
    · exact ⟨y, by rw [updE_other _ _ he]; exact hy⟩
  · rcases hcase h' with ⟨rfl, rfl⟩ | ⟨h1, h2⟩
    · exact hx
    · refine (h.each e' y h2).kept hk h1 (fun k hk1 hk2 e3 => ?_)
      have := (h.apart e x e' y he h2).1
      omega
  · rcases hcase h' with ⟨rfl, rfl⟩ | ⟨h1, h2⟩
    · rw [hlo]; exact hlow
    · exact h.low e' y h2
  · rcases hcase h' with ⟨rfl, rfl⟩ | ⟨h3, h4⟩
    · rcases hcase h2 with ⟨rfl, rfl⟩ | ⟨h5, h6⟩
      · rw [hlo, hhi]; exact ⟨(h.apart _ x _ x he he).1, fun e3 => absurd rfl e3⟩
      · rw [hlo, hhi]; exact h.apart _ x _ y2 he h6
    · rcases hcase h2 with ⟨rfl, rfl⟩ | ⟨h5, h6⟩
      · rw [hlo, hhi]; exact h.apart _ y _ x h4 he
      · exact h.apart _ _ _ _ h4 h6
theorem cut_any (h : Sto base w g b F sz E) {e : Nat} {x : EntS} (he : E e = some x) {fi ti : Int} (f t : Nat) (hfi : fi = f) (hti : ti = t) (h1 : f ≤ t) (h2 : t ≤ lenL x.kind x.L) (h3 : lenL x.kind x.L ≤ 1000000) :
    Calls Try.prog 36 #[.pointer (some ⟨e, 0, none⟩), .int .i64 fi, .int .i64 ti] w fun r w' => r = .returned (.tuple #[]) ∧ ∃ x', x'.kind = x.kind ∧ x'.L = cutL x.kind x.L f t ∧ Sto base w' g b F sz (updE E e x') ∧ Kept (fun k => k = e ∨ (x.lo ≤ k ∧ k < x.hi)) w w' := by
  subst hfi
  subst hti
  have hE := h.each e x he
  rcases hE.kinds with hk | hk
  · obtain ⟨s, hL⟩ := hE.text hk
    rw [hk, hL, lenL_text] at h2 h3
    obtain ⟨gl, off, cur, c, A5, c5, hv, hc, hc2, hg1, hg2, hbk, hc5, hcell⟩ := hE.text_row hL
    obtain ⟨z0, z1⟩ := hE.cells
    rw [hk] at z0
    rw [hv] at z1
    have z2 : w.cell? ⟨gl, off, none⟩ = some (.string s) := hcell 0 _ rfl
    have zf : w.frozen? ⟨gl, off, none⟩ = false := blk_frozen hbk
    refine (cut_string z0 z1 z2 zf h1 h2 h3).mono ?_
    rintro r w9 ⟨rfl, hw⟩
    have hfin := Part_fin (w := w) (wb := w) (wq := w) (w9 := w9) h (Below.refl _ _) (Below.refl _ _) h he hk hL (t' := s.extract f t) (Nat.le_trans (by rw [ByteArray.size_extract]; omega) h3) hv hc hc2 hg1 hg2 hbk hc5 hcell hw
    refine ⟨rfl, { x with L := [plain (s.extract f t)] }, rfl, ?_, hfin.1, hfin.2.mono (fun i _ h => .inr h)⟩
    rw [hk, hL]; rfl
  · rw [hk, lenL_lines] at h2 h3
    obtain ⟨z0, z1⟩ := hE.cells
    obtain ⟨ok, A, c, hv, h4, h5, h6, h7, h8, h9⟩ := hE.lines
    rw [hk] at z0
    rw [hv] at z1
    have zf : w.frozen? ⟨e, 1, none⟩ = false := blk_frozen hE.blk
    refine (cut_macro z0 z1 zf h1 (by omega)).mono ?_
    rintro r w9 ⟨rfl, rfl⟩
    have hkp : Kept (fun k => k = e) w (w.setCell ⟨e, 1, none⟩ (.slice (cutA A c f) (t - f) (c - f))) := (Kept.refl (fun k => k = e) w).setCell (p := ⟨e, 1, none⟩) (.inl rfl) _
    have hap := (h.apart e x e x he he).1
    have hlen : ((x.L.take t).drop f).length = t - f := by rw [List.length_drop, List.length_take]; omega
    have hrd := Kind.Rd.cut (c := c) h6 h1 (show t ≤ x.L.length by omega) h4
    refine ⟨rfl, ⟨2, .slice (cutA A c f) (t - f) (c - f), x.lo, x.hi, (x.L.take t).drop f⟩, hk.symm, by rw [hk]; rfl, h.reval he rfl rfl hkp ⟨?_, ?_, .inr rfl, (fun h => absurd (show (2 : Int) = 1 from h) (by decide)), ?_⟩, hkp.mono (fun i _ h => .inl h)⟩
    · have := blk_set hE.blk 1 (.slice (cutA A c f) (t - f) (c - f))
      rw [hk] at this
      exact this
    · refine ⟨ok, cutA A c f, c - f, by rw [hlen], by rw [hlen]; omega, by omega, ?_, h7, Nat.le_trans h8 hkp.size, fun hp => ?_⟩
      · rw [hlen]
        exact Kind.Rd.step hrd (fun k hk1 hk2 => hkp.block k hk2 (fun e3 => by have := h7 k hk1; omega))
      · rw [hlen] at hp
        obtain ⟨gl, off, cur, rfl, hgl⟩ := h9 (by omega)
        obtain ⟨b', o', e', hok, -⟩ := h6.2 (by omega)
        cases e'
        have hgl2 := h7 _ hok
        refine ⟨gl, if c = f then off else off + f * 5, cur, ?_, (hkp.block gl (blk_lt hgl) (by omega)).trans hgl⟩
        unfold cutA
        by_cases hcf : c = f
        · rw [if_pos hcf, if_pos hcf]
        · rw [if_neg hcf, if_neg hcf]
          show some ((⟨gl, off, none⟩ : Addr).add (f * 5)) = _
          rw [Addr.add_lit]
    · show ((x.L.take t).drop f).length ≤ 2000
      rw [hlen]; have := hE.most; omega
theorem Chop_any (h : Sto base w g b F sz E) (s : ByteArray) (hs : s.size ≤ 9223372036854775807) {e : Nat} {x : EntS} (hf : F s = some e) (he : E e = some x) (h3 : lenL x.kind x.L ≤ 1000000) :
    Calls Try.prog 45 #[.pointer (some ⟨g, 0, none⟩), .string s] w fun r w' => r = .returned (.int .i64 0) ∧ ∃ x', x'.kind = x.kind ∧ x'.L = cutL x.kind x.L 0 (lenL x.kind x.L - 1) ∧ Sto base w' g b F sz (updE E e x') ∧ Kept (fun k => k = e ∨ (x.lo ≤ k ∧ k < x.hi)) w w' := by
  have H := hide h
  have HHF := hide hf
  have HHE := hide he
  have HEE := hide (h.each e x he)
  obtain ⟨n, hn⟩ : ∃ n, n = lenL x.kind x.L := ⟨_, rfl⟩
  have HN := hide hn
  rw [← hn] at h3 ⊢
  obtain ⟨m, hm⟩ : ∃ m : Nat, m = n - 1 := ⟨_, rfl⟩
  have HM := hide hm
  rw [← hm]
  clear h hf he hn hm
  go_enter Try.func45, Try.ntmps45
  go_wp2_with (first
    | (go_at_call 33; refine (find_some H.out hs HHF.out).mono ?_; rintro e w' ⟨rfl, rfl⟩)
    | (go_at_call 34; refine (size_any HEE.out).mono ?_; rw [← HN.out]; rintro e w' ⟨rfl, rfl⟩)
    | (go_at_call 36
       refine (cut_any H.out HHE.out 0 m (by omega) (by have := HM.out; omega) (by omega) (by rw [← HN.out]; have := HM.out; omega) (by rw [← HN.out]; exact h3)).mono ?_
       rintro r w9 ⟨rfl, x', q1, q2, q3, q4⟩
       have Q1 := hide q1
       have Q2 := hide q2
       have Q3 := hide q3
       have Q4 := hide q4
       clear q1 q2 q3 q4))
  all_goals go_ret
  all_goals exact ⟨rfl, x', Q1.out, Q2.out, Q3.out, Q4.out⟩
end
end Go.Proofs.Ytbchokjhbjnfcaa
