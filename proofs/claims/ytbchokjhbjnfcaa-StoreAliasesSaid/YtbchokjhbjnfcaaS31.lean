/- The store: Append and Add at a name that is there. -/
import Derived.Test.YtbchokjhbjnfcaaS30
set_option linter.unusedVariables false
set_option linter.unusedSimpArgs false
namespace Go.Proofs.Ytbchokjhbjnfcaa
open Go.RowKit
set_option maxHeartbeats 1600000
set_option maxRecDepth 1000000
section
variable {base : Nat} {w : World} {g b : Nat} {F : ByteArray → Option Nat} {sz : Nat} {E : Nat → Option EntS}
theorem Add_long (h : Sto base w g b F sz E) (s : ByteArray) (hs : s.size ≤ 9223372036854775807) (A : Option Addr) (n c : Nat) (L : List LineT) (ok : Nat → Prop) (hr : lineK.Rd w ok A n L) (hfair : Fair L) (hall : L.all lineB = true) (hok : ∀ k, ok k → k ≠ b)
    {e0 : Nat} {x0 : EntS} (hf : F s = some e0) (he : E e0 = some x0) (hkd : x0.kind = 2) (hf0 : Fair x0.L) (hn : 2000 < x0.L.length + n) (hn1 : x0.L.length ≤ 2000) (hn2 : n ≤ 100000) (hsz : sz ≤ 1000000) (hbase : base ≤ w.heap.size) :
    Calls Try.prog 19 #[.pointer (some ⟨g, 0, none⟩), .string s, .slice A n c] w fun e w' => e = .returned (.int .i64 2) ∧ Below w.heap.size w w' := by
  have H := hide h
  have c0 := h.c0
  have HR := hide hr
  have HFA := hide (fair_append hf0 hfair)
  have HAL := hide hall
  have HOK := hide hok
  have HHF := hide hf
  have HE := hide he
  have HKD := hide hkd
  have hlow := (h.low e0 x0 he).2.2.1
  have hE := h.each e0 x0 he
  obtain ⟨-, z1⟩ := hE.cells
  obtain ⟨ok0, A0, c00, hv, -, -, h3, h4, -, -⟩ := hE.lines
  rw [hv] at z1
  have Z1 := hide z1
  have HR0 := hide h3
  have HOK0 := hide (show ∀ k, ok0 k → k ≠ b from fun k hk e => by have := (h4 k hk).1; omega)
  have hbl : b < w.heap.size := by
    obtain ⟨es, clock, hb⟩ := h.map.block
    exact (Array.getElem?_eq_some_iff.1 hb).1
  have HBL := hide hbl
  have hln : L.length = n := hr.1
  obtain ⟨L0, hL0⟩ : ∃ L0, L0 = x0.L := ⟨_, rfl⟩
  rw [← hL0] at HFA HR0 Z1 hn hn1
  have hlk := fun (W : World) (hb : Below w.heap.size w W) => look_some (H.out.below hb) hs HHF.out
  have HLK := hide hlk
  clear h hr hfair hall hok hf he hkd hE hv h3 h4 hf0 hlow z1 hL0 hlk
  go_enter Try.func19, Try.ntmps19
  go_upto_region 3 with (first
    | (go_at_call 25; refine (Kind_some H.out s hs HHF.out HE.out).mono ?_; rw [HKD.out]; rintro e w' ⟨rfl, rfl⟩)
    | (go_at_call 37; refine (Contains_Add A n c L ok _ HR.out (by omega)).mono ?_; rw [HAL.out]; rintro e w1 ⟨rfl, q⟩; have Q1 := hide q; clear q))
  have d0 := cell_stays Q1.out c0
  have d1 := cell_stays Q1.out Z1.out
  have dl := HLK.out w1 Q1.out
  have HG := hide (blk_new w1 (.cells #[.slice A0 L0.length c00, .slice A n c] 37))
  have HQ2 := hide (Q1.out.trans (((Below.refl _ _).alloc (Nat.le_refl _) (.cells #[.slice A0 L0.length c00, .slice A n c] 37)).mono Q1.out.size))
  go_wp2_with (first
    | (go_at_call 42
       refine (Concat_any w1.heap.size A0 L0.length c00 A n c L0 L ok0 ok _ HG.out (HR0.out.below HQ2.out) (HR.out.below HQ2.out) (by omega) (by omega)).mono ?_
       rintro e w3 ⟨v3, rfl, q1, q2⟩
       obtain ⟨A3, c3, rfl, -, -, -, -, q3⟩ := Kind.Own.form q1
       have hlt3 := Kind.Own.lt q1
       obtain ⟨M, hM⟩ : ∃ M, M = (L0 ++ L).length := ⟨_, rfl⟩
       rw [← hM] at q3
       rw [← hM] at hlt3
       rw [← hM]
       have hM2 : 2000 < M ∧ M ≤ 9223372036854775807 := by rw [hM, List.length_append]; omega
       have HM2 := hide hM2
       clear hM2
       clear hM
       have HR3 := hide q3
       have HQ3 := hide (HQ2.out.trans (q2.mono HQ2.out.size))
       have HS3 := hide (show ∀ k, (((ok0 k ∨ ok k) ∧ k < (w1.alloc (.cells #[.slice A0 L0.length c00, .slice A n c] 37)).heap.size) ∨ (Value.slice A3 M c3).ownBlock = some k) → k ≠ b from fun k hk => by
         rcases hk with ⟨hk | hk, -⟩ | hk
         · exact HOK0.out k hk
         · exact HOK.out k hk
         · have h1 := (hlt3 k hk).1
           have h2 := HBL.out
           have h5 := HQ2.out.size
           omega)
       clear q1 q2 q3 hlt3)
    | (go_at_call 32; refine (put_long (H.out.below HQ3.out) s hs 2 A3 M c3 HM2.out.1 HM2.out.2).mono ?_; rintro e w4 ⟨rfl, rfl⟩))
  go_ret
  exact ⟨rfl, HQ3.out⟩

theorem Append_did {e : Nat} {x : EntS} (h : Sto base w g b F sz E) (s t : ByteArray) (hs : s.size ≤ 9223372036854775807) (ht : t.size ≤ 9223372036854775807) (hnm : nameB s = true) (hf : F s = some e) (he : E e = some x) (hx : Good x) (hsz2 : sz ≤ 1000000) (hbase : base ≤ w.heap.size) :
    Calls Try.prog 16 #[.pointer (some ⟨g, 0, none⟩), .string s, .string t] w (Did base w g b F sz E e x) := by
  have H := hide h
  have c0 := h.c0
  have HNM := hide hnm
  have HHF := hide hf
  have HE := hide he
  have HGX := hide hx
  cases hfit : fitsB t with
  | false =>
    have HFIT := hide hfit
    clear h hnm hf he hx hfit
    go_enter Try.func16, Try.ntmps16
    go_wp2_with (first
      | (go_at_call 29; refine (gone_some _ _ _ c0).mono ?_; rintro r w' ⟨rfl, rfl⟩)
      | (go_at_call 30; refine (fits_any _ _ ht).mono ?_; rw [HFIT.out]; rintro r w' ⟨rfl, rfl⟩)
      | (go_at_call 11; refine (Define_unfit H.out s t ht HFIT.out).mono ?_; rintro r w' ⟨rfl, rfl⟩))
    go_ret
    exact did_same H.out HE.out HGX.out (Below.refl _ _)
  | true =>
  have HFIT := hide hfit
  have ht2 := fits_size hfit
  have hE := h.each e x he
  rcases hE.kinds with hk | hk
  · obtain ⟨u, hL⟩ := hE.text hk
    have hu : u.size ≤ 2000 := hx.txt hk (plain u) (by rw [hL]; exact List.mem_singleton.2 rfl)
    have HK := hide hk
    have HL := hide hL
    clear h hnm hf he hx hfit hE hk hL
    by_cases h2 : 2000 < u.size + t.size
    · have h2i : (2000 : Int) < (u.size : Int) + (t.size : Int) := by omega
      go_enter Try.func16, Try.ntmps16
      go_wp2_with (first
        | (go_at_call 29; refine (gone_some _ _ _ c0).mono ?_; rintro r w' ⟨rfl, rfl⟩)
        | (go_at_call 30; refine (fits_any _ _ ht).mono ?_; rw [HFIT.out]; rintro r w' ⟨rfl, rfl⟩)
        | (go_at_call 31
           refine (named_any _ _ hs).mono ?_
           rw [HNM.out]
           rintro r w1 ⟨rfl, q⟩
           have hH1 := H.out.below q
           have c1 := hH1.c0
           have hl1 := look_some hH1 hs HHF.out
           obtain ⟨gl, off, cur, c, hv, -, -, -, -, zt, -⟩ := (hH1.each e x HE.out).text_cells HL.out
           obtain ⟨z0, z1⟩ := (hH1.each e x HE.out).cells
           rw [HK.out] at z0
           rw [hv] at z1
           have H1 := hide hH1
           have Q1 := hide q
           clear q hH1 hv)
        | (go_at_call 25; refine (Kind_some H1.out s hs HHF.out HE.out).mono ?_; rw [HK.out]; rintro r w2 ⟨rfl, rfl⟩))
      go_ret
      exact did_same H.out HE.out HGX.out Q1.out
    · have h2i : ¬ (2000 : Int) < (u.size : Int) + (t.size : Int) := by omega
      go_enter Try.func16, Try.ntmps16
      go_wp2_with (first
        | (go_at_call 29; refine (gone_some _ _ _ c0).mono ?_; rintro r w' ⟨rfl, rfl⟩)
        | (go_at_call 30; refine (fits_any _ _ ht).mono ?_; rw [HFIT.out]; rintro r w' ⟨rfl, rfl⟩)
        | (go_at_call 31
           refine (named_any _ _ hs).mono ?_
           rw [HNM.out]
           rintro r w1 ⟨rfl, q⟩
           have hH1 := H.out.below q
           have c1 := hH1.c0
           have hl1 := look_some hH1 hs HHF.out
           obtain ⟨gl, off, cur, c, hv, -, -, -, -, zt, -⟩ := (hH1.each e x HE.out).text_cells HL.out
           obtain ⟨z0, z1⟩ := (hH1.each e x HE.out).cells
           rw [HK.out] at z0
           rw [hv] at z1
           have H1 := hide hH1
           have Q1 := hide q
           clear q hH1 hv)
        | (go_at_call 25; refine (Kind_some H1.out s hs HHF.out HE.out).mono ?_; rw [HK.out]; rintro r w2 ⟨rfl, rfl⟩)
        | (go_at_call 11
           refine (Define_did H1.out s (u ++ t) hs (by simp; omega) HNM.out HHF.out HE.out HGX.out hsz2 (Nat.le_trans hbase Q1.out.size)).mono ?_
           rintro r w3 ⟨rr, x', rfl, q1, q2, q3⟩
           have HQ1 := hide q1
           have HQ2 := hide q2
           have HQ3 := hide q3
           clear q1 q2 q3))
      go_ret
      exact ⟨rr, x', rfl, HQ1.out, HQ2.out, (Kept.of_below (S := fun _ => False) Q1.out).trans HQ3.out (fun _ _ h => h.elim) (fun _ _ h => h)⟩
  · have HK := hide hk
    clear h hnm hf he hx hfit hE hk
    go_enter Try.func16, Try.ntmps16
    go_wp2_with (first
      | (go_at_call 29; refine (gone_some _ _ _ c0).mono ?_; rintro r w' ⟨rfl, rfl⟩)
      | (go_at_call 30; refine (fits_any _ _ ht).mono ?_; rw [HFIT.out]; rintro r w' ⟨rfl, rfl⟩)
      | (go_at_call 31; refine (named_any _ _ hs).mono ?_; rw [HNM.out]; rintro r w1 ⟨rfl, q⟩; have H1 := hide (H.out.below q); have Q1 := hide q; clear q)
      | (go_at_call 25; refine (Kind_some H1.out s hs HHF.out HE.out).mono ?_; rw [HK.out]; rintro r w2 ⟨rfl, rfl⟩)
      | (go_at_call 11
         refine (Define_did H1.out s t hs ht HNM.out HHF.out HE.out HGX.out hsz2 (Nat.le_trans hbase Q1.out.size)).mono ?_
         rintro r w3 ⟨rr, x', rfl, q1, q2, q3⟩
         have HQ1 := hide q1
         have HQ2 := hide q2
         have HQ3 := hide q3
         clear q1 q2 q3))
    go_ret
    exact ⟨rr, x', rfl, HQ1.out, HQ2.out, (Kept.of_below (S := fun _ => False) Q1.out).trans HQ3.out (fun _ _ h => h.elim) (fun _ _ h => h)⟩
theorem Add_did {e : Nat} {x : EntS} (h : Sto base w g b F sz E) (s : ByteArray) (hs : s.size ≤ 9223372036854775807) (A : Option Addr) (n c : Nat) (L : List LineT) (ok : Nat → Prop) (hr : lineK.Rd w ok A n L) (hn : n ≤ 100000) (hfn : ∀ y ∈ L, ∀ z ∈ y.boxes, z.ns.length ≤ 17592186044416) (hok : ∀ k, ok k → k ≠ b) (hnm : nameB s = true) (hf : F s = some e) (he : E e = some x) (hx : Good x) (hsz2 : sz ≤ 1000000) (hbase : base ≤ w.heap.size) :
    Calls Try.prog 19 #[.pointer (some ⟨g, 0, none⟩), .string s, .slice A n c] w (Did base w g b F sz E e x) := by
  have hE := h.each e x he
  rcases hE.kinds with hk | hk
  · have H := hide h
    have HHF := hide hf
    have HE := hide he
    have HK := hide hk
    have HM := hide (Macro_did h s hs A n c L ok hr (by omega) hfn hok hnm hf he hx hsz2 hbase)
    clear h hr hfn hok hnm hf he hx hE hk
    go_enter Try.func19, Try.ntmps19
    go_wp2_with (first
      | (go_at_call 25; refine (Kind_some H.out s hs HHF.out HE.out).mono ?_; rw [HK.out]; rintro e w' ⟨rfl, rfl⟩)
      | (go_at_call 15
         refine HM.out.mono ?_
         rintro r w3 ⟨rr, x', rfl, q1, q2, q3⟩
         have HQ1 := hide q1
         have HQ2 := hide q2
         have HQ3 := hide q3
         clear q1 q2 q3))
    go_ret
    exact ⟨rr, x', rfl, HQ1.out, HQ2.out, HQ3.out⟩
  cases hall : L.all lineB with
  | false =>
    have H := hide h
    have HHF := hide hf
    have HE := hide he
    have HK := hide hk
    have HR := hide hr
    have HAL := hide hall
    have HGX := hide hx
    clear h hr hfn hok hnm hf he hx hE hk hall
    go_enter Try.func19, Try.ntmps19
    go_wp2_with (first
      | (go_at_call 25; refine (Kind_some H.out s hs HHF.out HE.out).mono ?_; rw [HK.out]; rintro e w' ⟨rfl, rfl⟩)
      | (go_at_call 37; refine (Contains_Add A n c L ok _ HR.out (by omega)).mono ?_; rw [HAL.out]; rintro e w1 ⟨rfl, q⟩; have H1 := hide (H.out.below q); have Q1 := hide q; clear q)
      | (go_at_call 15; refine (Macro_bad H1.out s A n c L ok (HR.out.below Q1.out) (by omega) HAL.out).mono ?_; rintro r w3 ⟨rfl, q⟩; have Q3 := hide (below_self Q1.out q); clear q))
    go_ret
    exact did_same H.out HE.out HGX.out Q3.out
  | true =>
  have hfair := fair_good hall hfn
  by_cases h2 : 2000 < x.L.length + n
  · refine (Add_long h s hs A n c L ok hr hfair hall hok hf he hk hx.fair h2 hE.most hn hsz2 hbase).mono ?_
    rintro r w' ⟨rfl, q⟩
    exact did_same h he hx q
  · refine (Add_old h s hs A n c L ok hr hfair hall hok hf he hk hx.fair (by omega) hsz2 hbase).mono ?_
    rintro r w' ⟨rfl, x', h3, h4, h5, h6⟩
    exact ⟨0, x', rfl, h5, good_lines h3 (by rw [h4]; exact fair_append hx.fair hfair), h6.mono (fun i _ h => .inl h)⟩
end
end Go.Proofs.Ytbchokjhbjnfcaa
