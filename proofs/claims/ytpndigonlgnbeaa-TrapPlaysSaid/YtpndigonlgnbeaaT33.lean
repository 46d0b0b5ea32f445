/- The document's table: On. -/
import Derived.Test.YtpndigonlgnbeaaT32
import Derived.Deep.CutBlock
set_option linter.unusedVariables false
set_option linter.unusedSimpArgs false
namespace Go.Proofs.Ytpndigonlgnbeaa
open Go.RowKit
set_option maxHeartbeats 1600000
set_option maxRecDepth 1000000

theorem isort_snoc (l : List TrapT) (x : TrapT) : TS.isort TK (l ++ [x]) = TS.ins TK (TS.isort TK l) x := TS.mrg_append _ _ _
/-- The place at which an element is put. -/
theorem ins_place {O : List TrapT} (hs : TS.Sorted TK O) {j : Nat} {b : Int} {nm : ByteArray} (hj : j ≤ O.length) (h1 : ∀ x ∈ O.drop j, b < x.at_) (h2 : ∀ y, 0 < j → O[j - 1]? = some y → y.at_ ≤ b) :
    TS.ins TK O ⟨b, nm⟩ = O.take j ++ [⟨b, nm⟩] ++ O.drop j := by
  have h3 : ∀ x ∈ O.take j, TK x ≤ TK (⟨b, nm⟩ : TrapT) := by
    intro x hx
    obtain ⟨i, hi, rfl⟩ := List.mem_iff_getElem.1 hx
    rw [List.length_take] at hi
    rw [List.getElem_take]
    have hy := h2 _ (by omega) (List.getElem?_eq_getElem (show j - 1 < O.length by omega))
    have hxy : (O[i]'(by omega)).at_ ≤ (O[j - 1]'(by omega)).at_ := by
      rcases Nat.lt_or_ge i (j - 1) with h | h
      · exact List.pairwise_iff_getElem.1 hs i (j - 1) (by omega) (by omega) h
      · have : i = j - 1 := by omega
        subst this
        exact Int.le_refl _
    show (O[i]'(by omega)).at_ ≤ b
    omega
  have := TS.ins_at (key := TK) (s1 := O.take j) (s2 := O.drop j) (y := (⟨b, nm⟩ : TrapT)) h3 h1
  rw [List.take_append_drop] at this
  rw [this]
  simp
theorem drop_before {O : List TrapT} {j : Nat} {b : Int} {y : TrapT} (hj : 0 < j) (hy : O[j - 1]? = some y) (hb : b < y.at_) (h : ∀ x ∈ O.drop j, b < x.at_) : ∀ x ∈ O.drop (j - 1), b < x.at_ := by
  obtain ⟨hl, rfl⟩ := List.getElem?_eq_some_iff.1 hy
  rw [List.drop_eq_getElem_cons hl, show j - 1 + 1 = j by omega]
  intro x hx
  rcases List.mem_cons.1 hx with rfl | hx
  · exact hb
  · exact h x hx

theorem Rd_take {w : World} {ok : Nat → Prop} {A : Option Addr} {n j : Nat} {l : List TrapT} (h : trapK.Rd w ok A n l) (hj : j ≤ n) : trapK.Rd w ok A j (l.take j) := by
  refine ⟨by rw [List.length_take]; have := h.1; omega, fun hn => ?_⟩
  obtain ⟨b, off, e, hb, hlt, hcell⟩ := h.2 (by omega)
  refine ⟨b, off, e, hb, hlt, fun i x hx => ?_⟩
  rw [List.getElem?_take] at hx
  split at hx
  · exact hcell i x hx
  · cases hx

theorem ROn_tab (base g : Nat) (v : Value) (ts : List TrapT) (len : Int) (w : World) (hT : RTab base w g v ts) (hn : ts.length ≤ 1000000) :
    Calls Try.prog 40 #[.pointer (some ⟨g, 0, none⟩), .int .i64 len] w fun e w' => ∃ v', e = .returned v' ∧ trapK.Own 84 w' (fun _ => False) w.heap.size v' (onP len ts) ∧ Below w.heap.size w w' := by
  have HT := hide hT
  have h0 := hT.c0
  obtain ⟨A, c, rfl, -, -, -, -, hrd⟩ := hT.own.form
  have HR := hide hrd
  clear hT hrd
  go_enter Try.func40, Try.ntmps40
  go_wp2_with (go_at_call 47; refine (no_some _ _ _ h0).mono ?_; rintro e w' ⟨rfl, rfl⟩)
  clear h0
  go_loopw [5, 6, 7, 8, 9, 10] (fun t5 t6 _ _ _ _ wr => ∃ i : Nat, t6 = .int .i64 i ∧ i ≤ ts.length ∧ Hid (trapK.Own 84 wr (fun _ => False) w.heap.size t5 (TS.isort TK ((ts.take i).filterMap (landP len)))) ∧ Hid (Below w.heap.size w wr)) (fun _ t6 _ _ _ _ _ => ts.length - (intOf t6).toNat)
  case atStart => exact ⟨0, rfl, Nat.zero_le _, Kind.Own.nil _ _ _ _ _, Below.refl _ _⟩
  case round =>
    obtain ⟨i, rfl, hi, HO, HK⟩ := hrel
    have z1 := (HT.out.below HK.out).c1
    by_cases hlt : i < ts.length
    · obtain ⟨x, hx⟩ : ∃ x, ts[i]? = some x := ⟨_, List.getElem?_eq_getElem hlt⟩
      obtain ⟨bb, off, rfl, x0, x1⟩ := rd_trap (HR.out.below HK.out) hx
      have hxk : ts[i] = x := (List.getElem?_eq_some_iff.1 hx).2
      have HXK := hide hxk
      have hfl := fm_len len ts i
      obtain ⟨O, hO⟩ : ∃ O, O = TS.isort TK ((ts.take i).filterMap (landP len)) := ⟨_, rfl⟩
      have hol : O.length ≤ ts.length := by rw [hO, TS.isort_length]; exact hfl
      have hos : TS.Sorted TK O := by rw [hO]; exact TS.isort_sorted _
      rw [← hO] at HO
      have HOE := hide hO
      have HOS := hide hos
      clear hx hxk hfl hO hos
      cases hlp : landsP x.at_ len with
      | none =>
        have HL := hide hlp
        clear hlp
        go_wp2_with (go_at_call 45; refine (RLands_any _ _ _).mono ?_; rintro e w' ⟨rfl, rfl⟩; rw [HL.out])
        go_roundw
        case rel => exact ⟨i + 1, by go_num, by omega, hide (by rw [fm_none hlt (by rw [HXK.out]; exact landP_none HL.out), ← HOE.out]; exact HO.out), HK⟩
        case measure => simp [intOf]; omega
      | some b =>
        have HL := hide hlp
        clear hlp
        obtain ⟨A5, c5, hu5, h5a, h5b, -, -, hr5⟩ := HO.out.form
        subst hu5
        have HR5 := hide hr5
        clear hr5
        go_upto_block 2 with (go_at_call 45; refine (RLands_any _ _ _).mono ?_; rintro e w' ⟨rfl, rfl⟩; rw [HL.out])
        go_cut [9] (fun t9 wx => ∃ j : Nat, t9 = .int .i64 j ∧ j ≤ O.length ∧ Hid (∀ x ∈ O.drop j, b < x.at_) ∧ Hid (∀ y, 0 < j → O[j - 1]? = some y → y.at_ ≤ b) ∧ wr = wx)
        case first =>
          go_wp2_with fail
          go_loopw [9] (fun t9 wx => ∃ j : Nat, t9 = .int .i64 j ∧ j ≤ O.length ∧ Hid (∀ x ∈ O.drop j, b < x.at_) ∧ wr = wx) (fun t9 _ => (intOf t9).toNat)
          case atStart => exact ⟨O.length, rfl, Nat.le_refl _, hide (by rw [List.drop_length]; intro x hx; cases hx), rfl⟩
          case round =>
            obtain ⟨j, rfl, hj, HD, rfl⟩ := hrel
            by_cases hj0 : 0 < j
            · obtain ⟨y, hy⟩ : ∃ y, O[j - 1]? = some y := ⟨_, List.getElem?_eq_getElem (by omega)⟩
              obtain ⟨b5, o5, rfl, y0, y1⟩ := rd_trap HR5.out hy
              obtain ⟨jp, hjp⟩ : ∃ jp : Nat, jp + 1 = j := ⟨j - 1, by omega⟩
              rw [show j - 1 = jp by omega] at y0 y1
              have HY := hide hy
              have HJP := hide hjp
              have jz : (j : Int) - 1 = (jp : Int) := by omega
              have jl : jp < O.length := by omega
              clear hy hjp y1
              by_cases hb : b < y.at_
              · have HB := hide hb
                go_wp2_with fail
                go_roundw
                case rel => exact ⟨jp, rfl, by omega, hide (by have := HJP.out; have h := drop_before hj0 HY.out HB.out HD.out; rw [show j - 1 = jp by omega] at h; exact h), by first | rfl | trivial⟩
                case measure => have := HJP.out; simp [intOf]; omega
              · have HB := hide hb
                go_wp2_with fail
                go_meet
                exact ⟨j, rfl, hj, HD, hide (fun z _ hz => by have h := HY.out; rw [hz] at h; injection h with h; rw [h]; have := HB.out; omega), rfl⟩
            · have hj1 : j = 0 := by omega
              subst hj1
              go_wp2_with fail
              go_meet
              exact ⟨0, rfl, hj, HD, hide (fun z h0 _ => absurd h0 (by omega)), rfl⟩
        case rest =>
        obtain ⟨j, rfl, hj, HD, HE, rfl⟩ := hcut
        have HC1 := hide (Rd_take HR5.out hj)
        go_upto_region 13 with (at_builtin; refine wpList_copy wr rfl _ _ 66 rfl 84 _ Try.underlying66 info_rtrap rfl _ rfl rfl A5 j c5 (O.take j) rfl HC1.out (by omega) ?_; intro v1 w1 q1 q2; have Q1 := hide q1; have Q2 := hide q2; clear q1 q2)
        have HK1 := hide (below_self HK.out Q2.out)
        clear z1 x0 x1
        have z1 := (HT.out.below HK1.out).c1
        obtain ⟨bb1, off1, e1, x0, x1⟩ := rd_trap (HR.out.below HK1.out) (show ts[i]? = some x by rw [List.getElem?_eq_getElem hlt, HXK.out])
        cases e1
        have hlj : (O.take j).length = j := by rw [List.length_take]; omega
        have HLJ := hide hlj
        clear hlj
        go_upto_region 14 with (at_builtin; refine wpList_append_one_at (ok := fun _ => False) (base := wr.heap.size) w1 trapK rfl _ _ 66 rfl 84 _ 24 Try.underlying66 info_rtrap rfl (by decide) (by decide) v1 (O.take j) rfl Q1.out (⟨b, x.nm⟩ : TrapT) [.int .i64 b, .string x.nm] _ rfl rfl rfl (fun k h => h.elim) (by rw [HLJ.out]; omega) Q2.out.size ?_; intro v2 w2 hown2 hg2 hat2; have HO2 := hide hown2; have HB2 := hide (Q2.out.grown hg2 Q2.out.size (fun k hk => (Q1.out.lt k hk).1)); clear hown2 hg2 hat2)
        have hc2 := (HR5.out.below HB2.out).cut (k := j) (m := O.length) (c := c5) hj (Nat.le_refl _) h5a
        rw [List.take_length] at hc2
        have HC2 := hide hc2
        clear hc2
        go_wp2_with (at_builtin
                     refine wpList_append_rd (ok := fun k => False ∨ (Value.slice A5 O.length c5).ownBlock = some k) (base := wr.heap.size) w2 trapK rfl _ _ 66 rfl 84 _ 24 Try.underlying66 info_rtrap rfl (by decide) (by decide) v2 (O.take j ++ [(⟨b, x.nm⟩ : TrapT)]) rfl (own_any HO2.out) _ _ _ (O.drop j) rfl HC2.out ?_ (by rw [List.length_append, HLJ.out]; simp; omega) HB2.out.size ?_
                     · intro k hk e
                       rcases hk with hk | hk
                       · exact hk
                       · have h1 := (HO.out.lt k hk).2
                         have h2 := (HO2.out.lt k e).1
                         omega
                     intro v3 w3 hown3 hg3 hat3
                     have HO3 := hide (own_any (ok' := fun _ => False) hown3)
                     have HB3 := hide (HB2.out.grown hg3 HB2.out.size (fun k hk => (HO2.out.lt k hk).1))
                     clear hown3 hg3 hat3)
        go_roundw
        case rel => exact ⟨i + 1, by go_num, by omega, hide (by
            rw [fm_some hlt (by rw [HXK.out]; exact landP_some HL.out), isort_snoc, ← HOE.out, ins_place HOS.out hj HD.out HE.out]
            exact HO3.out.lower HK.out.size), hide (below_self HK.out HB3.out)⟩
        case measure => simp [intOf]; omega
    · have hin : i = ts.length := by omega
      subst hin
      have ho := HO.out
      rw [List.take_length] at ho
      have HO1 := hide ho
      clear ho hlt
      go_wp2_with fail
      go_ret
      exact ⟨_, rfl, HO1.out, HK.out⟩
end Go.Proofs.Ytpndigonlgnbeaa
