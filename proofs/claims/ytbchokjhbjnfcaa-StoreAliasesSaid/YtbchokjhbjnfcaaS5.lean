/- The store: put, Define, Text. -/
import Derived.Test.YtbchokjhbjnfcaaS4
set_option linter.unusedVariables false
set_option linter.unusedSimpArgs false
namespace Go.Proofs.Ytbchokjhbjnfcaa
open Go.RowKit
set_option maxHeartbeats 1600000
set_option maxRecDepth 1000000

def updE (E : Nat → Option EntS) (e : Nat) (x : EntS) : Nat → Option EntS := fun k => if k = e then some x else E k
theorem updE_same (E : Nat → Option EntS) (e : Nat) (x : EntS) : updE E e x e = some x := by unfold updE; rw [if_pos rfl]
theorem updE_other (E : Nat → Option EntS) {e k : Nat} (x : EntS) (h : k ≠ e) : updE E e x k = E k := by unfold updE; rw [if_neg h]
theorem upd_id (F : ByteArray → Option Nat) {s : ByteArray} {o : Option Nat} (h : F s = o) : upd F s o = F := by
  funext t
  unfold upd
  split
  · rename_i e; rw [e, h]
  · rfl
theorem EntAt.hi_le {w : World} {e : Nat} {x : EntS} (h : EntAt w e x) : x.hi ≤ w.heap.size := by
  obtain ⟨ok, A, c, -, -, -, -, -, h5, -⟩ := h.lines
  exact h5
theorem Sto.put {base : Nat} {w w3 : World} {g b : Nat} {F F' : ByteArray → Option Nat} {sz sz' : Nat} {E : Nat → Option EntS} (h : Sto base w g b F sz E) {e : Nat} {x : EntS} (hk : Kept (fun k => k = b ∨ k = e) w w3) (hm : MapIs w3 b F' sz') (hx : EntAt w3 e x)
    (he : base ≤ e) (hlo : w.heap.size ≤ x.lo) (hge : e < x.lo) (hF : ∀ s e', F' s = some e' → F s = some e' ∨ e' = e) (hne : e ≠ g) (hap : ∀ e' x', E e' = some x' → e < x'.lo ∨ x'.hi ≤ e) : Sto base w3 g b F' sz' (updE E e x) := by
  have hcase : ∀ {e' x'}, updE E e x e' = some x' → (e' = e ∧ x' = x) ∨ (e' ≠ e ∧ E e' = some x') := by
    intro e' x' h'
    by_cases he : e' = e
    · subst he
      rw [updE_same] at h'
      injection h' with h'
      exact .inl ⟨rfl, h'.symm⟩
    · rw [updE_other _ _ he] at h'
      exact .inr ⟨he, h'⟩
  refine ⟨blk_kept h.blk hk (fun e' => e'.elim (fun e' => h.gb e') (fun e' => hne e'.symm)), hm, fun s e' hs => ?_, fun e' x' h' => ?_, fun e' x' h' => ?_, fun e' x' e2 x2 h' h2 => ?_, h.hg, h.hb⟩
  · by_cases he : e' = e
    · subst he; exact ⟨x, updE_same _ _ _⟩
    · rcases hF s e' hs with hs | hs
      · obtain ⟨x', hx'⟩ := h.ent s e' hs
        exact ⟨x', by rw [updE_other _ _ he]; exact hx'⟩
      · exact absurd hs he
  · rcases hcase h' with ⟨rfl, rfl⟩ | ⟨h1, h2⟩
    · exact hx
    · refine (h.each e' x' h2).kept hk (fun e3 => e3.elim (fun e3 => (h.ne_ent h2).2 e3) h1) (fun k hk1 hk2 e3 => ?_)
      rcases e3 with rfl | rfl
      · have := (h.low e' x' h2).2.2.1; omega
      · have := hap e' x' h2; omega
  · rcases hcase h' with ⟨rfl, rfl⟩ | ⟨h1, h2⟩
    · have h3 := h.map.lt
      have h4 := h.lt
      have := h.hb
      exact ⟨he, by omega, by omega, by omega⟩
    · exact h.low e' x' h2
  · rcases hcase h' with ⟨rfl, rfl⟩ | ⟨h3, h4⟩
    · rcases hcase h2 with ⟨rfl, rfl⟩ | ⟨h5, h6⟩
      · exact ⟨.inl hge, fun e3 => absurd rfl e3⟩
      · have := (h.each e2 x2 h6).hi_le
        exact ⟨hap e2 x2 h6, fun _ => .inr (by omega)⟩
    · rcases hcase h2 with ⟨rfl, rfl⟩ | ⟨h5, h6⟩
      · have h7 := blk_lt (h.each e' x' h4).blk
        have := (h.each e' x' h4).hi_le
        exact ⟨.inl (by omega), fun _ => .inl (by omega)⟩
      · exact h.apart e' x' e2 x2 h4 h6

/-- What is asked of own at lines: in whatever world but for blocks of S. -/
def OwnOk (S : Nat → Prop) (w : World) (lv : Value) (L : List LineT) : Prop :=
  ∀ W, Kept S w W → Calls Try.prog 43 #[lv] W fun e W' => ∃ v, e = .returned v ∧ LinesAt W' W.heap.size W'.heap.size v L ∧ Below W.heap.size W W'

theorem put_new {base : Nat} {w : World} {g b : Nat} {F : ByteArray → Option Nat} {sz : Nat} {E : Nat → Option EntS} (h : Sto base w g b F sz E) (s : ByteArray) (hs : s.size ≤ 9223372036854775807) (kind : Int) (A : Option Addr) (n c : Nat) (L : List LineT) (hL : L.length = n)
    (hown : OwnOk (fun k => k = b) w (.slice A n c) L) (hkd : kind = 1 ∨ kind = 2) (htx : kind = 1 → ∃ t, L = [plain t]) (hn : n ≤ 2000) (hf : F s = none) (hsz : sz < 500) (hbase : base ≤ w.heap.size) :
    Calls Try.prog 32 #[.pointer (some ⟨g, 0, none⟩), .string s, .int .i64 kind, .slice A n c] w fun e w' => e = .returned (.int .i64 0) ∧ ∃ x, x.kind = kind ∧ x.L = L ∧ Sto base w' g b (upd F s (some w.heap.size)) (sz + 1) (updE E w.heap.size x) ∧ Kept (fun k => k = b) w w' := by
  have H := hide h
  have HOWN := hide hown
  have hal : Below w.heap.size w (w.alloc (.cells #[.int .i64 0, .slice none 0 0] 69)) := (Below.refl _ _).alloc (Nat.le_refl _) _
  have c0 := h.c0
  have c0' := (h.below hal).c0
  have hl := h.map.look_ok hs
  rw [hf] at hl
  have hl2 : (Instr.lookup 47 (.map (some b)) (.string s) true).run Try.prog w = .ok (.tuple #[.pointer none, .bool false]) w := hl
  have hlen := fun ty => h.map.len ty
  have hmap := h.map.below hal
  have HMAP := hide hmap
  have HAL := hide hal
  have hnb : w.heap.size ≠ b := by have := h.map.lt; omega
  have HNB := hide hnb
  have HHF := hide hf
  have hn2 : L.length ≤ 2000 := by omega
  have HN2 := hide hn2
  clear hn2
  clear hl hown h hmap hal hnb hf
  go_enter Try.func32, Try.ntmps32
  go_wp2_with (first
    | (at_mapUpdate
       refine wpList_put _ rfl _ _ _ rfl b sz F rfl HMAP.out s hs (by omega) w.heap.size rfl rfl ?_
       intro w1 q1 q2
       rw [HHF.out] at q1
       have hb1 := blk_grown (blk_new w (.cells #[.int .i64 0, .slice none 0 0] 69)) q2 (fun e => HNB.out (Option.some.inj e))
       have HM1 := hide q1
       have HG1 := hide q2
       have HBK1 := hide hb1
       clear q1 q2 hb1)
    | (go_at_call 43
       refine (HOWN.out _ ((Kept.of_below (S := fun k => k = b) HAL.out).trans (Kept.of_grown HG1.out) (fun _ _ h => h) (fun i _ h => (Option.some.inj h).symm))).mono ?_
       rintro e w2 ⟨v2, rfl, q1, q2⟩
       obtain ⟨ok2, A2, c2, e2, -⟩ := id q1
       subst e2
       have hb2 := blk_below HBK1.out q2 (blk_lt HBK1.out)
       have z0 : w2.cell? ⟨w.heap.size, 0, none⟩ = some (.int .i64 0) := by rw [blk_cell hb2]; rfl
       have z1 : w2.cell? ⟨w.heap.size, 1, none⟩ = some (.slice none 0 0) := by rw [blk_cell hb2]; rfl
       have z2 : w2.frozen? ⟨w.heap.size, 0, none⟩ = false := blk_frozen hb2
       have z3 : w2.frozen? ⟨w.heap.size, 1, none⟩ = false := blk_frozen hb2
       have hbs := blk_set hb2 0 (.int .i64 kind)
       have z4 : (w2.setCell ⟨w.heap.size, 0, none⟩ (.int .i64 kind)).cell? ⟨w.heap.size, 1, none⟩ = some (.slice none 0 0) := by rw [blk_cell hbs]; rfl
       have z5 : (w2.setCell ⟨w.heap.size, 0, none⟩ (.int .i64 kind)).frozen? ⟨w.heap.size, 1, none⟩ = false := blk_frozen hbs
       have HB2 := hide hb2
       have HL2 := hide q1
       have HW2 := hide q2
       clear q1 q2 hb2 hbs))
  go_ret
  subst hL
  have hsz1 : (w.alloc (.cells #[.int .i64 0, .slice none 0 0] 69)).heap.size = w.heap.size + 1 := by simp
  have hw1 : w.heap.size + 1 ≤ w1.heap.size := by have := HG1.out.size; omega
  have hkw : Kept (fun k => k = b) w w1 := (Kept.of_below (S := fun k => k = b) HAL.out).trans (Kept.of_grown HG1.out) (fun _ _ h => h) (fun i _ h => (Option.some.inj h).symm)
  have hkw2 : Kept (fun k => k = b) w w2 := hkw.trans (Kept.of_below (S := fun _ => False) HW2.out) (fun _ _ h => h) (fun _ _ h => h.elim)
  have hkw3 : Kept (fun k => k = b) w ((w2.setCell ⟨w.heap.size, 0, none⟩ (.int .i64 kind)).setCell ⟨w.heap.size, 1, none⟩ (.slice A2 L.length c2)) := (hkw2.setCell (.inr (Nat.le_refl _)) _).setCell (.inr (Nat.le_refl _)) _
  have hb3 := blk_set (blk_set HB2.out 0 (.int .i64 kind)) 1 (.slice A2 L.length c2)
  have hlin : LinesAt ((w2.setCell ⟨w.heap.size, 0, none⟩ (.int .i64 kind)).setCell ⟨w.heap.size, 1, none⟩ (.slice A2 L.length c2)) w1.heap.size w2.heap.size (.slice A2 L.length c2) L :=
    HL2.out.step (by simp [World.setCell]) (fun k h1 h2 => (Below.heap_setCell _ _ _ _ (by show k ≠ w.heap.size; omega)).trans (Below.heap_setCell _ _ _ _ (by show k ≠ w.heap.size; omega)))
  have hmp : MapIs ((w2.setCell ⟨w.heap.size, 0, none⟩ (.int .i64 kind)).setCell ⟨w.heap.size, 1, none⟩ (.slice A2 L.length c2)) b (upd F s (some w.heap.size)) (sz + 1) := by
    have hbl := HM1.out.lt
    refine (HM1.out.below HW2.out).step ?_
    exact (Below.heap_setCell _ _ _ _ (fun e => HNB.out e.symm)).trans (Below.heap_setCell _ _ _ _ (fun e => HNB.out e.symm))
  refine ⟨rfl, ⟨kind, (.slice A2 L.length c2), w1.heap.size, w2.heap.size, L⟩, rfl, rfl, ?_, hkw3⟩
  refine H.out.put (hkw3.mono (fun i _ h => .inl h)) hmp ⟨hb3, hlin, hkd, htx, HN2.out⟩ hbase (by show w.heap.size ≤ w1.heap.size; omega) (by show w.heap.size < w1.heap.size; omega) (fun t e' ht => ?_) (by have := H.out.lt; omega) (fun e' x' he => .inr (H.out.each e' x' he).hi_le)
  by_cases e : t = s
  · subst e
    rw [upd_same] at ht
    exact .inr (Option.some.inj ht).symm
  · rw [upd_other _ _ e] at ht
    exact .inl ht

theorem kept_new (w : World) (o : Obj) (S : Nat → Prop) : Kept S w (w.alloc o) := Kept.of_below ((Below.refl _ _).alloc (Nat.le_refl _) _)
/-- A string's definition at a name that is new. -/
theorem Define_new {base : Nat} {w : World} {g b : Nat} {F : ByteArray → Option Nat} {sz : Nat} {E : Nat → Option EntS} (h : Sto base w g b F sz E) (s t : ByteArray) (hs : s.size ≤ 9223372036854775807) (ht : t.size ≤ 9223372036854775807)
    (hfit : fitsB t = true) (hnm : nameB s = true) (hf : F s = none) (hsz : sz < 500) (hbase : base ≤ w.heap.size) :
    Calls Try.prog 11 #[.pointer (some ⟨g, 0, none⟩), .string s, .string t] w fun e w' => e = .returned (.int .i64 0) ∧ ∃ eb x, x.kind = 1 ∧ x.L = [plain t] ∧ Sto base w' g b (upd F s (some eb)) (sz + 1) (updE E eb x) ∧ Kept (fun k => k = b) w w' := by
  have H := hide h
  have c0 := h.c0
  have HFIT := hide hfit
  have HNM := hide hnm
  have HHF := hide hf
  clear h hfit hnm hf
  go_enter Try.func11, Try.ntmps11
  go_wp2_with (first
    | (go_at_call 29; refine (gone_some _ _ _ c0).mono ?_; rintro e w' ⟨rfl, rfl⟩)
    | (go_at_call 30; refine (fits_any _ _ ht).mono ?_; rw [HFIT.out]; rintro e w' ⟨rfl, rfl⟩)
    | (go_at_call 31; refine (named_any _ _ hs).mono ?_; rw [HNM.out]; rintro e w1 ⟨rfl, q⟩; have H1 := hide (H.out.below q); have Q1 := hide q; clear q)
    | (go_at_call 32
       refine (put_new (H1.out.below ((Below.refl _ _).alloc (Nat.le_refl _) _)) s hs 1 _ 1 1 [plain t] rfl ?_ (.inl rfl) (fun _ => ⟨t, rfl⟩) (by omega) HHF.out hsz (Nat.le_trans hbase (Nat.le_trans Q1.out.size (by simp)))).mono ?_
       · intro W hk
         exact own_one w1.heap.size t ht W (blk_kept (blk_new w1 _) hk (fun e => by have := H1.out.map.lt; omega))
       rintro e w2 ⟨rfl, x, hx1, hx2, hst, hkp⟩
       have HX1 := hide hx1
       have HX2 := hide hx2
       have HST := hide hst
       have HKP := hide hkp
       clear hx1 hx2 hst hkp))
  go_ret
  refine ⟨rfl, _, x, HX1.out, HX2.out, HST.out, ?_⟩
  exact ((Kept.of_below (S := fun k => k = b) Q1.out).trans (kept_new w1 _ (fun k => k = b)) (fun _ _ h => h) (fun _ _ h => h)).trans HKP.out (fun _ _ h => h) (fun _ _ h => h)

theorem EntAt.text_cells {w : World} {e : Nat} {x : EntS} (h : EntAt w e x) {t : ByteArray} (hL : x.L = [plain t]) : ∃ g off cur c, x.v = .slice (some ⟨g, off, none⟩) 1 c ∧ 1 ≤ c ∧ x.lo ≤ g ∧ g < x.hi ∧ w.heap[g]? = some (.cells cur 61 (0, 0)) ∧ w.cell? ⟨g, off, none⟩ = some (.string t) ∧ t.size ≤ 9223372036854775807 := by
  obtain ⟨ok, A, c, hv, h1, h2, h3, h4, h5, h6⟩ := h.lines
  rw [hL] at hv h1 h3 h6
  obtain ⟨g, off, cur, rfl, hg⟩ := h6 (by simp)
  obtain ⟨b', o', e', hok, hlt, hcell⟩ := h3.2 (by simp)
  cases e'
  obtain ⟨cs, ⟨A5, c5, rfl, ht, -⟩, hcs⟩ := hcell 0 _ rfl
  exact ⟨g, off, cur, c, hv, h1, (h4 _ hok).1, (h4 _ hok).2, hg, hcs 0 _ rfl, ht⟩
theorem EntAt.cells {w : World} {e : Nat} {x : EntS} (h : EntAt w e x) : w.cell? ⟨e, 0, none⟩ = some (.int .i64 x.kind) ∧ w.cell? ⟨e, 1, none⟩ = some x.v := ⟨by rw [blk_cell h.blk]; rfl, by rw [blk_cell h.blk]; rfl⟩

/-- The text of a string. -/
theorem Text_string {base : Nat} {w : World} {g b : Nat} {F : ByteArray → Option Nat} {sz : Nat} {E : Nat → Option EntS} (h : Sto base w g b F sz E) (s : ByteArray) (hs : s.size ≤ 9223372036854775807) {e : Nat} {x : EntS} {t : ByteArray} (hf : F s = some e) (he : E e = some x) (hk : x.kind = 1) (hL : x.L = [plain t]) :
    Calls Try.prog 13 #[.pointer (some ⟨g, 0, none⟩), .string s] w fun r w' => r = .returned (.tuple #[.string t, .int .i64 0]) ∧ w = w' := by
  have hE := h.each e x he
  obtain ⟨gl, off, cur, c, hv, hc, -, -, -, hcell, -⟩ := hE.text_cells hL
  obtain ⟨z0, z1⟩ := hE.cells
  rw [hk] at z0
  rw [hv] at z1
  have H := hide h
  have HHF := hide hf
  clear h hE hf he hk hL hv
  go_enter Try.func13, Try.ntmps13
  go_wp2_with (go_at_call 33; refine (find_some H.out hs HHF.out).mono ?_; rintro e w' ⟨rfl, rfl⟩)
  go_ret2
  exact ⟨rfl, rfl⟩
theorem size_string {w : World} {e : Nat} {x : EntS} {t : ByteArray} (hE : EntAt w e x) (hk : x.kind = 1) (hL : x.L = [plain t]) :
    Calls Try.prog 34 #[.pointer (some ⟨e, 0, none⟩)] w fun r w' => r = .returned (.int .i64 t.size) ∧ w = w' := by
  obtain ⟨gl, off, cur, c, hv, hc, -, -, -, hcell, -⟩ := hE.text_cells hL
  obtain ⟨z0, z1⟩ := hE.cells
  rw [hk] at z0
  rw [hv] at z1
  clear hE hk hL hv
  go_enter Try.func34, Try.ntmps34
  go_wp2_with fail
  go_ret
  exact ⟨rfl, rfl⟩
end Go.Proofs.Ytbchokjhbjnfcaa
