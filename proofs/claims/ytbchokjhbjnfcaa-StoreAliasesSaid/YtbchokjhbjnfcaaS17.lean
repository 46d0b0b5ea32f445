/- The store: Kind, Lines, Append at a string. -/
import Derived.Test.YtbchokjhbjnfcaaS10
import Derived.Test.YtbchokjhbjnfcaaS16
set_option linter.unusedVariables false
set_option linter.unusedSimpArgs false
namespace Go.Proofs.Ytbchokjhbjnfcaa
open Go.RowKit
set_option maxHeartbeats 1600000
set_option maxRecDepth 1000000

/-- Sizes of lines that are copied. -/
def Fair (L : List LineT) : Prop := ∀ x ∈ L, x.boxes.length ≤ 1000000 ∧ ∀ y ∈ x.boxes, y.ns.length ≤ 17592186044416
theorem fair_plain (t : ByteArray) : Fair [plain t] := fun x hx => by
  rw [List.mem_singleton.1 hx]
  exact ⟨Nat.zero_le _, fun y hy => by cases hy⟩
/-- own of lines that stay where they are. -/
theorem own_ok {S : Nat → Prop} {w : World} {A : Option Addr} {n c : Nat} {L : List LineT} {ok : Nat → Prop} (hr : lineK.Rd w ok A n L) (hn : n ≤ 1000000) (hf : Fair L) (hS : ∀ k, ok k → k < w.heap.size → ¬ S k) : OwnOk S w (.slice A n c) L := fun W hk =>
  own_lines A n c L ok W (hr.step (fun k h1 h2 => hk.block k h2 (hS k h1 h2))) hn hf
section
variable {base : Nat} {w : World} {g b : Nat} {F : ByteArray → Option Nat} {sz : Nat} {E : Nat → Option EntS}
theorem look_some (h : Sto base w g b F sz E) {s : ByteArray} (hs : s.size ≤ 9223372036854775807) {e : Nat} (hf : F s = some e) : (Instr.lookup 47 (.map (some b)) (.string s) false).run Try.prog w = .ok (.pointer (some ⟨e, 0, none⟩)) w := by
  have hl := h.map.look hs
  rw [hf] at hl
  exact hl
theorem Kind_some (h : Sto base w g b F sz E) (s : ByteArray) (hs : s.size ≤ 9223372036854775807) {e : Nat} {x : EntS} (hf : F s = some e) (he : E e = some x) :
    Calls Try.prog 25 #[.pointer (some ⟨g, 0, none⟩), .string s] w fun r w' => r = .returned (.int .i64 x.kind) ∧ w = w' := by
  have c0 := h.c0
  have hl2 := look_some h hs hf
  obtain ⟨z0, -⟩ := (h.each e x he).cells
  obtain ⟨kd, hkd⟩ : ∃ kd, kd = x.kind := ⟨_, rfl⟩
  rw [← hkd] at z0 ⊢
  clear h hf he hkd
  go_enter Try.func25, Try.ntmps25
  go_wp2_with (go_at_call 29; refine (gone_some _ _ _ c0).mono ?_; rintro e w' ⟨rfl, rfl⟩)
  go_ret
  exact ⟨rfl, rfl⟩
/-- The lines of an entry. -/
theorem Lines_some (h : Sto base w g b F sz E) (s : ByteArray) (hs : s.size ≤ 9223372036854775807) {e : Nat} {x : EntS} (hf : F s = some e) (he : E e = some x) (hfair : Fair x.L) :
    Calls Try.prog 20 #[.pointer (some ⟨g, 0, none⟩), .string s] w fun r w' => ∃ v, r = .returned (.tuple #[v, .int .i64 0]) ∧ LinesAt w' w.heap.size w'.heap.size v x.L ∧ Below w.heap.size w w' := by
  have H := hide h
  have HHF := hide hf
  have hE := h.each e x he
  obtain ⟨-, z1⟩ := hE.cells
  obtain ⟨ok, A, c, hv, h1, h2, h3, -, -, -⟩ := hE.lines
  rw [hv] at z1
  have HR := hide h3
  have HFA := hide hfair
  have HMO := hide (show x.L.length ≤ 1000000 from Nat.le_trans hE.most (by omega))
  obtain ⟨L, hL⟩ : ∃ L, L = x.L := ⟨_, rfl⟩
  rw [← hL] at HR HFA HMO z1 ⊢
  clear h hf he hE hv h1 h2 h3 hL hfair
  go_enter Try.func20, Try.ntmps20
  go_wp2_with (first
    | (go_at_call 33; refine (find_some H.out hs HHF.out).mono ?_; rintro e w' ⟨rfl, rfl⟩)
    | (go_at_call 43; refine (own_lines A L.length c L ok _ HR.out HMO.out HFA.out).mono ?_; rintro e w1 ⟨v1, rfl, q1, q2⟩; have Q1 := hide q1; have Q2 := hide q2; clear q1 q2))
  go_ret2
  exact ⟨_, rfl, Q1.out, Q2.out⟩
/-- Append at a string that has room. -/
theorem Append_text (h : Sto base w g b F sz E) (s t : ByteArray) (hs : s.size ≤ 9223372036854775807) (ht : t.size ≤ 9223372036854775807) (hfit : fitsB t = true) (hnm : nameB s = true) {e : Nat} {x : EntS} {u : ByteArray} (hf : F s = some e) (he : E e = some x) (hk : x.kind = 1) (hL : x.L = [plain u]) (hfu : fitsB (u ++ t) = true) (hsz2 : sz ≤ 1000000) (hbase : base ≤ w.heap.size) :
    Calls Try.prog 16 #[.pointer (some ⟨g, 0, none⟩), .string s, .string t] w fun r w' => r = .returned (.int .i64 0) ∧ ∃ x', x'.kind = 1 ∧ x'.L = [plain (u ++ t)] ∧ Sto base w' g b F sz (updE E e x') ∧ Kept (fun k => k = e) w w' := by
  have H := hide h
  have c0 := h.c0
  have HFIT := hide hfit
  have HNM := hide hnm
  have HHF := hide hf
  have HE := hide he
  have HK := hide hk
  have HL := hide hL
  have HFU := hide hfu
  have hus : (u ++ t).size ≤ 2000 := by
    unfold fitsB at hfu
    simp at hfu
    simpa using hfu.1
  have hus2 : u.size + t.size ≤ 2000 := by simpa using hus
  clear h hfit hnm hf he hk hL hfu hus
  go_enter Try.func16, Try.ntmps16
  go_wp2_with (first
    | (go_at_call 29; refine (gone_some _ _ _ c0).mono ?_; rintro r w' ⟨rfl, rfl⟩)
    | (go_at_call 30; refine (fits_any _ _ ht).mono ?_; rw [HFIT.out]; rintro r w' ⟨rfl, rfl⟩)
    | (go_at_call 31
       refine (named_any _ _ hs).mono ?_
       rw [HNM.out]
       rintro r w1 ⟨rfl, q⟩
       have hH1 := H.out.below q
       have c1 := hH1.c0
       have hl1 := look_some hH1 hs HHF.out
       obtain ⟨gl, off, cur, c, hv, -, -, -, -, zt, -⟩ := (hH1.each e x HE.out).text_cells HL.out
       obtain ⟨z0, z1⟩ := (hH1.each e x HE.out).cells
       rw [HK.out] at z0
       rw [hv] at z1
       have H1 := hide hH1
       have Q1 := hide q
       clear q hH1 hv)
    | (go_at_call 25; refine (Kind_some H1.out s hs HHF.out HE.out).mono ?_; rw [HK.out]; rintro r w2 ⟨rfl, rfl⟩)
    | (go_at_call 11
       refine (Define_old H1.out s (u ++ t) hs (by simp; omega) HFU.out HNM.out HHF.out HE.out hsz2 (Nat.le_trans hbase Q1.out.size)).mono ?_
       rintro r w3 ⟨rfl, x', hx1, hx2, hst, hkp⟩
       have HX1 := hide hx1
       have HX2 := hide hx2
       have HST := hide hst
       have HKP := hide hkp
       clear hx1 hx2 hst hkp))
  go_ret
  exact ⟨rfl, x', HX1.out, HX2.out, HST.out, (Kept.of_below (S := fun k => k = e) Q1.out).trans HKP.out (fun _ _ h => h) (fun _ _ h => h)⟩
end
end Go.Proofs.Ytbchokjhbjnfcaa
