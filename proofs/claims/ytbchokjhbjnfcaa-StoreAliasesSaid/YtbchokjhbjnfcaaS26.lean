/- The store: Add at a macro. -/
import Derived.Test.YtbchokjhbjnfcaaS25
set_option linter.unusedVariables false
set_option linter.unusedSimpArgs false
namespace Go.Proofs.Ytbchokjhbjnfcaa
open Go.RowKit
set_option maxHeartbeats 1600000
set_option maxRecDepth 1000000
theorem fair_append {L1 L2 : List LineT} (h1 : Fair L1) (h2 : Fair L2) : Fair (L1 ++ L2) := fun x hx => (List.mem_append.1 hx).elim (h1 x) (h2 x)
section
variable {base : Nat} {w : World} {g b : Nat} {F : ByteArray → Option Nat} {sz : Nat} {E : Nat → Option EntS}
theorem Add_old (h : Sto base w g b F sz E) (s : ByteArray) (hs : s.size ≤ 9223372036854775807) (A : Option Addr) (n c : Nat) (L : List LineT) (ok : Nat → Prop) (hr : lineK.Rd w ok A n L) (hfair : Fair L) (hall : L.all lineB = true) (hok : ∀ k, ok k → k ≠ b)
    {e0 : Nat} {x0 : EntS} (hf : F s = some e0) (he : E e0 = some x0) (hkd : x0.kind = 2) (hf0 : Fair x0.L) (hn : x0.L.length + n ≤ 2000) (hsz : sz ≤ 1000000) (hbase : base ≤ w.heap.size) :
    Calls Try.prog 19 #[.pointer (some ⟨g, 0, none⟩), .string s, .slice A n c] w fun e w' => e = .returned (.int .i64 0) ∧ ∃ x, x.kind = 2 ∧ x.L = x0.L ++ L ∧ Sto base w' g b F sz (updE E e0 x) ∧ Kept (fun k => k = e0) w w' := by
  have H := hide h
  have c0 := h.c0
  have HR := hide hr
  have HFA := hide (fair_append hf0 hfair)
  have HAL := hide hall
  have HOK := hide hok
  have HHF := hide hf
  have HE := hide he
  have HKD := hide hkd
  have hlow := (h.low e0 x0 he).2.2.1
  have hE := h.each e0 x0 he
  obtain ⟨-, z1⟩ := hE.cells
  obtain ⟨ok0, A0, c00, hv, -, -, h3, h4, -, -⟩ := hE.lines
  rw [hv] at z1
  have Z1 := hide z1
  have HR0 := hide h3
  have HOK0 := hide (show ∀ k, ok0 k → k ≠ b from fun k hk e => by have := (h4 k hk).1; omega)
  have hbl : b < w.heap.size := by
    obtain ⟨es, clock, hb⟩ := h.map.block
    exact (Array.getElem?_eq_some_iff.1 hb).1
  have HBL := hide hbl
  have hln : L.length = n := hr.1
  obtain ⟨L0, hL0⟩ : ∃ L0, L0 = x0.L := ⟨_, rfl⟩
  rw [← hL0] at HFA HR0 Z1 hn ⊢
  have hlk := fun (W : World) (hb : Below w.heap.size w W) => look_some (H.out.below hb) hs HHF.out
  have HLK := hide hlk
  clear h hr hfair hall hok hf he hkd hE hv h3 h4 hf0 hlow z1 hL0 hlk
  go_enter Try.func19, Try.ntmps19
  go_upto_region 3 with (first
    | (go_at_call 25; refine (Kind_some H.out s hs HHF.out HE.out).mono ?_; rw [HKD.out]; rintro e w' ⟨rfl, rfl⟩)
    | (go_at_call 37; refine (Contains_Add A n c L ok _ HR.out (by omega)).mono ?_; rw [HAL.out]; rintro e w1 ⟨rfl, q⟩; have Q1 := hide q; clear q))
  have d0 := cell_stays Q1.out c0
  have d1 := cell_stays Q1.out Z1.out
  have dl := HLK.out w1 Q1.out
  have HG := hide (blk_new w1 (.cells #[.slice A0 L0.length c00, .slice A n c] 37))
  have HQ2 := hide (Q1.out.trans (((Below.refl _ _).alloc (Nat.le_refl _) (.cells #[.slice A0 L0.length c00, .slice A n c] 37)).mono Q1.out.size))
  go_wp2_with (first
    | (go_at_call 42
       refine (Concat_any w1.heap.size A0 L0.length c00 A n c L0 L ok0 ok _ HG.out (HR0.out.below HQ2.out) (HR.out.below HQ2.out) (by omega) (by omega)).mono ?_
       rintro e w3 ⟨v3, rfl, q1, q2⟩
       obtain ⟨A3, c3, rfl, -, -, -, -, q3⟩ := Kind.Own.form q1
       have hlt3 := Kind.Own.lt q1
       obtain ⟨M, hM⟩ : ∃ M, M = (L0 ++ L).length := ⟨_, rfl⟩
       rw [← hM] at q3
       rw [← hM] at hlt3
       rw [← hM]
       have HM := hide hM
       have hM2 : M ≤ 2000 := by rw [hM, List.length_append]; omega
       clear hM
       have HR3 := hide q3
       have HQ3 := hide (HQ2.out.trans (q2.mono HQ2.out.size))
       have HS3 := hide (show ∀ k, (((ok0 k ∨ ok k) ∧ k < (w1.alloc (.cells #[.slice A0 L0.length c00, .slice A n c] 37)).heap.size) ∨ (Value.slice A3 M c3).ownBlock = some k) → k ≠ b from fun k hk => by
         rcases hk with ⟨hk | hk, -⟩ | hk
         · exact HOK0.out k hk
         · exact HOK.out k hk
         · have h1 := (hlt3 k hk).1
           have h2 := HBL.out
           have h5 := HQ2.out.size
           omega)
       clear q1 q2 q3 hlt3)
    | (go_at_call 32
       refine (put_old (H.out.below HQ3.out) s hs 2 A3 M c3 (L0 ++ L) HM.out.symm (own_ok HR3.out (by omega) HFA.out (fun k hk _ e => HS3.out k hk e)) (.inr rfl) (fun h => absurd h (by omega)) hM2 HHF.out HE.out hsz (Nat.le_trans hbase HQ3.out.size)).mono ?_
       rintro e w4 ⟨rfl, x, hx1, hx2, hst, hkp⟩
       have HX1 := hide hx1
       have HX2 := hide hx2
       have HST := hide hst
       have HKP := hide hkp
       clear hx1 hx2 hst hkp))
  go_ret
  exact ⟨rfl, x, HX1.out, HX2.out, HST.out, (Kept.of_below (S := fun k => k = e0) HQ3.out).trans HKP.out (fun _ _ h => h) (fun _ _ h => h)⟩
end
end Go.Proofs.Ytbchokjhbjnfcaa
