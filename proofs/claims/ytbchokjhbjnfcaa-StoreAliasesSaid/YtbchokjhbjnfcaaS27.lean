/- The law StoreAppends: its walk. -/
import Derived.Test.YtbchokjhbjnfcaaS26
import Derived.Test.YtbchokjhbjnfcaaS23
import Derived.Test.YtbchokjhbjnfcaaS8
set_option linter.unusedVariables false
set_option linter.unusedSimpArgs false
namespace Go.Proofs.Ytbchokjhbjnfcaa
open Go.RowKit
set_option maxHeartbeats 3200000
set_option maxRecDepth 1000000
/-- The parts in one. -/
def joinP (P : List ByteArray) : ByteArray := P.foldl (· ++ ·) ⟨#[]⟩
theorem joinP_take {P : List ByteArray} {i : Nat} {s : ByteArray} (h : P[i]? = some s) : joinP (P.take (i + 1)) = joinP (P.take i) ++ s := by
  obtain ⟨hi, rfl⟩ := List.getElem?_eq_some_iff.1 h
  unfold joinP
  rw [List.take_succ_eq_append_getElem hi, List.foldl_append]
  rfl
theorem rd_str {w : World} {ok : Nat → Prop} {A : Option Addr} {n i : Nat} {l : List ByteArray} {x : ByteArray} (h : Kind.str.Rd w ok A n l) (hx : l[i]? = some x) :
    ∃ b off, A = some ⟨b, off, none⟩ ∧ w.cell? ⟨b, off + i, none⟩ = some (.string x) := by
  obtain ⟨hi, rfl⟩ := List.getElem?_eq_some_iff.1 hx
  obtain ⟨b, off, cs, e, _, hK, hc⟩ := h.at_ hi
  subst hK
  have h0 := hc 0 _ rfl
  rw [show off + i * Kind.str.sz + 0 = off + i from by show off + i * 1 + 0 = off + i; omega] at h0
  exact ⟨b, off, e, h0⟩
theorem fits_size {s : ByteArray} (h : fitsB s = true) : s.size ≤ 2000 := by
  unfold fitsB at h
  simp at h
  exact h.1
def cutA (A : Option Addr) (c k : Nat) : Option Addr := if c = k then A else A.map (·.add (k * 5))
theorem sizeOf_line (W : World) : (sizeOf 61).run Try.prog W = .ok 5 W := by kernel_rfl
theorem elem_lines : Try.prog.elem 37 = 61 := by kernel_rfl
theorem slice_low (W : World) (A : Option Addr) (n c k : Nat) (h1 : k ≤ n) : (Instr.slice 37 (.slice A n c) (some (.int .i64 (k : Int))) none none).run Try.prog W = .ok (.slice (cutA A c k) (n - k) (c - k)) W := by
  rw [run_slice_l W 37 A n c Try.underlying37 .i64 (k : Int) (by omega) (by omega), elem_lines, sizeOf_line]
  rfl
theorem slice_low1 (W : World) (A : Option Addr) (n c k : Nat) (h1 : k + 1 ≤ n) : (Instr.slice 37 (.slice A n c) (some (.int .i64 ((k : Int) + 1))) none none).run Try.prog W = .ok (.slice (cutA A c (k + 1)) (n - (k + 1)) (c - (k + 1))) W := slice_low W A n c (k + 1) h1
theorem slice_high (W : World) (A : Option Addr) (n c k : Nat) (h1 : k ≤ c) : (Instr.slice 37 (.slice A n c) none (some (.int .i64 (k : Int))) none).run Try.prog W = .ok (.slice A k c) W := by
  rw [run_slice_h W 37 A n c Try.underlying37 .i64 (k : Int) (by omega) (by omega), elem_lines, sizeOf_line]
  show Result.ok (sliced A 0 k c 5) W = _
  unfold sliced
  rcases Nat.eq_zero_or_pos c with h | h
  · rw [if_pos h, Nat.sub_zero, Nat.sub_zero]
  · rw [if_neg (by omega), Nat.sub_zero, Nat.sub_zero, Nat.zero_mul]
    cases A with
    | none => rfl
    | some a => simp [Addr.add]
section
variable {w : World} {ok : Nat → Prop} {A : Option Addr} {n c k : Nat} {l : List LineT}
theorem rd_low (h : lineK.Rd w ok A n l) (hk : k ≤ n) (hc : n ≤ c) : lineK.Rd w ok (cutA A c k) (n - k) (l.drop k) := by
  have := Kind.Rd.cut (c := c) h hk (Nat.le_refl n) hc
  rw [List.take_of_length_le (by have := h.1; omega)] at this
  exact this
theorem rd_high (h : lineK.Rd w ok A n l) (hk : k ≤ n) : lineK.Rd w ok A k (l.take k) := by
  refine ⟨by rw [List.length_take]; have := h.1; omega, fun hp => ?_⟩
  obtain ⟨b, off, e, hb, hlt, hc⟩ := h.2 (by omega)
  exact ⟨b, off, e, hb, hlt, fun i x hx => hc i x (by rw [List.getElem?_take] at hx; split at hx; exact hx; cases hx)⟩
end
theorem fair_sub {L M : List LineT} (h : Fair L) (hs : ∀ x ∈ M, x ∈ L) : Fair M := fun x hx => h x (hs x hx)
theorem fair_good {L : List LineT} (h : L.all lineB = true) (hf : ∀ x ∈ L, ∀ y ∈ x.boxes, y.ns.length ≤ 17592186044416) : Fair L := fun x hx => by
  refine ⟨?_, hf x hx⟩
  have h1 := List.all_eq_true.1 h x hx
  unfold lineB at h1
  split at h1 <;> simp at h1 <;> first | omega | simp [h1.2] | simp [h1]
theorem fits_right {u t : ByteArray} (h : fitsB (u ++ t) = true) : fitsB t = true := by
  unfold fitsB flatB at h ⊢
  simp [ByteArray.size_append, ByteArray.data_append] at h ⊢
  exact ⟨by omega, h.2.2⟩
theorem Define_fresh {base : Nat} {w : World} {g b : Nat} {F : ByteArray → Option Nat} {sz : Nat} {E : Nat → Option EntS} (h : Sto base w g b F sz E) (s t : ByteArray) (hs : s.size ≤ 9223372036854775807) (ht : t.size ≤ 9223372036854775807)
    (hfit : fitsB t = true) (hnm : nameB s = true) (hf : F s = none) (hsz : sz < 500) (hbase : base ≤ w.heap.size) :
    Calls Try.prog 11 #[.pointer (some ⟨g, 0, none⟩), .string s, .string t] w fun e w' => e = .returned (.int .i64 0) ∧ ∃ eb x, w.heap.size ≤ eb ∧ x.kind = 1 ∧ x.L = [plain t] ∧ Sto base w' g b (upd F s (some eb)) (sz + 1) (updE E eb x) ∧ Kept (fun k => k = b) w w' := by
  have H := hide h
  have c0 := h.c0
  have HFIT := hide hfit
  have HNM := hide hnm
  have HHF := hide hf
  clear h hfit hnm hf
  go_enter Try.func11, Try.ntmps11
  go_wp2_with (first
    | (go_at_call 29; refine (gone_some _ _ _ c0).mono ?_; rintro e w' ⟨rfl, rfl⟩)
    | (go_at_call 30; refine (fits_any _ _ ht).mono ?_; rw [HFIT.out]; rintro e w' ⟨rfl, rfl⟩)
    | (go_at_call 31; refine (named_any _ _ hs).mono ?_; rw [HNM.out]; rintro e w1 ⟨rfl, q⟩; have H1 := hide (H.out.below q); have Q1 := hide q; clear q)
    | (go_at_call 32
       refine (put_new (H1.out.below ((Below.refl _ _).alloc (Nat.le_refl _) _)) s hs 1 _ 1 1 [plain t] rfl ?_ (.inl rfl) (fun _ => ⟨t, rfl⟩) (by omega) HHF.out hsz (Nat.le_trans hbase (Nat.le_trans Q1.out.size (by simp)))).mono ?_
       · intro W hk
         exact own_one w1.heap.size t ht W (blk_kept (blk_new w1 _) hk (fun e => by have := H1.out.map.lt; omega))
       rintro e w2 ⟨rfl, x, hx1, hx2, hst, hkp⟩
       have HX1 := hide hx1
       have HX2 := hide hx2
       have HST := hide hst
       have HKP := hide hkp
       clear hx1 hx2 hst hkp))
  go_ret
  refine ⟨rfl, _, x, Nat.le_trans Q1.out.size (by simp), HX1.out, HX2.out, HST.out, ?_⟩
  exact ((Kept.of_below (S := fun k => k = b) Q1.out).trans (kept_new w1 _ (fun k => k = b)) (fun _ _ h => h) (fun _ _ h => h)).trans HKP.out (fun _ _ h => h) (fun _ _ h => h)
theorem StoreAppends_any (A1 : Option Addr) (n1 c1 : Nat) (P : List ByteArray) (ok1 : Nat → Prop) (A2 : Option Addr) (n2 c2 : Nat) (L : List LineT) (ok2 : Nat → Prop) (z : Int) (w : World) (hP : Kind.str.Rd w ok1 A1 n1 P) (hPs : ∀ s ∈ P, s.size ≤ 4611686018427387904) (hn1 : n1 ≤ 9223372036854775806)
    (hL : lineK.Rd w ok2 A2 n2 L) (hn2 : n2 ≤ c2) (hc2 : c2 ≤ 9223372036854775807) (hf : ∀ x ∈ L, ∀ y ∈ x.boxes, y.ns.length ≤ 17592186044416) :
    Calls Try.prog 5 #[.slice A1 n1 c1, .slice A2 n2 c2, .int .i64 z] w fun e w' => e = .returned (.bool true) ∧ Below w.heap.size w w' := by
  have HP := hide hP
  have HPS := hide hPs
  have HL := hide hL
  have HF := hide hf
  have HLN := hide hP.1
  have fe : Hid (fitsB ⟨#[]⟩ = true) := hide (by kernel_rfl)
  clear hP hPs hL hf
  go_enter Try.func5, Try.ntmps5
  go_wp2_with fail
  go_loopw [7, 8] (fun t7 t8 wr => ∃ (i : Nat) (u : ByteArray), w = wr ∧ t8 = .int .i64 i ∧ t7 = .string u ∧ i ≤ n1 ∧ i ≤ 50 ∧ Hid (u = joinP (P.take i)) ∧ Hid (∀ k, k ≤ i → fitsB (joinP (P.take k)) = true)) (fun _ t8 _ => n1 - (intOf t8).toNat)
  case atStart => exact ⟨0, _, rfl, rfl, rfl, Nat.zero_le _, Nat.zero_le _, hide rfl, hide (fun k hk => by obtain rfl := Nat.le_zero.1 hk; exact fe.out)⟩
  case round =>
    obtain ⟨i, u, rfl, rfl, rfl, hi, hi5, HU, HFI⟩ := hrel
    have hus : u.size ≤ 2000 := by rw [HU.out]; exact fits_size (HFI.out i (Nat.le_refl _))
    by_cases hgo : i < n1 ∧ i < 50
    · obtain ⟨hlt, h50⟩ := hgo
      obtain ⟨x, hx⟩ : ∃ x, P[i]? = some x := ⟨_, List.getElem?_eq_getElem (by have := HLN.out; omega)⟩
      obtain ⟨b1, o1, rfl, p0⟩ := rd_str HP.out hx
      have hxs := HPS.out x (List.mem_of_getElem? hx)
      have HX := hide (joinP_take hx)
      have hsum : (u ++ x).size ≤ 9223372036854775807 := by rw [ByteArray.size_append]; omega
      have HSUM := hide hsum
      clear hx hsum
      cases hfit : fitsB (u ++ x) with
      | false =>
        have HFIT := hide hfit
        clear hfit
        go_wp2_with (first
          | (go_at_call 8; refine (IsText_any _ _ HSUM.out).mono ?_; rw [HFIT.out]; rintro e w' ⟨rfl, rfl⟩)
          | (go_at_call 9; refine (sane_any _).mono ?_; rintro e w1 ⟨rfl, q⟩; have Q := hide q; clear q))
        go_ret
        exact ⟨rfl, Q.out⟩
      | true =>
        have HFIT := hide hfit
        clear hfit
        go_wp2_with (go_at_call 8; refine (IsText_any _ _ HSUM.out).mono ?_; rw [HFIT.out]; rintro e w' ⟨rfl, rfl⟩)
        go_roundw
        case rel => exact ⟨i + 1, u ++ x, trivial, by go_num, rfl, by omega, by omega, hide (by rw [HX.out, HU.out]), hide (fun k hk => by
          rcases Nat.lt_or_ge i k with h | h
          · obtain rfl : k = i + 1 := by omega
            rw [HX.out, ← HU.out]; exact HFIT.out
          · exact HFI.out k h)⟩
        case measure => simp [intOf]; omega
    · have hfu : fitsB u = true := by rw [HU.out]; exact HFI.out i (Nat.le_refl _)
      have HFU := hide hfu
      have HSU := hide (show u.size ≤ 9223372036854775807 by omega)
      have HGO := hide hgo
      have n1' := hide nameA_ok
      have n2' : Hid (nameB ⟨#[98]⟩ = true) := hide (by kernel_rfl)
      have s1 : Hid ((⟨#[97]⟩ : ByteArray).size ≤ 9223372036854775807) := hide (show 1 ≤ 9223372036854775807 by omega)
      have s2 : Hid ((⟨#[98]⟩ : ByteArray).size ≤ 9223372036854775807) := hide (show 1 ≤ 9223372036854775807 by omega)
      have se : Hid ((⟨#[]⟩ : ByteArray).size ≤ 9223372036854775807) := hide (show 0 ≤ 9223372036854775807 by omega)
      have HAB : Hid ((⟨#[97]⟩ : ByteArray) ≠ ⟨#[98]⟩) := hide (by decide)
      obtain ⟨hlt, h50⟩ | hlt : (i < n1 ∧ ¬ i < 50) ∨ ¬ i < n1 := by omega
      all_goals clear hgo hfu
      all_goals
        go_upto_region 9 with (go_at_call 10; refine (new_any _).mono ?_; rintro e w1 ⟨rfl, q⟩; have HS1 : Hid (Sto w.heap.size w1 (w.heap.size + 1) w.heap.size (fun _ => none) 0 (fun _ => none)) := hide (by rw [q]; exact new_sto w); have HB1 : Hid (Below w.heap.size w w1) := hide (by rw [q]; exact ((Below.refl _ _).alloc (Nat.le_refl _) _).alloc (by simp) _); clear q)
      all_goals
        go_upto_region 11 with (first
          | (go_at_call 11
             refine (Define_fresh HS1.out ⟨#[97]⟩ ⟨#[]⟩ s1.out se.out fe.out n1'.out rfl (by omega) HB1.out.size).mono ?_
             rintro e w2 ⟨rfl, ea, xa, hea, hxa1, hxa2, hst, hkp⟩
             have HS2 := hide hst
             have HB2 := hide (HB1.out.trans (hkp.below (B := w.heap.size) HB1.out.size (fun i h => by omega)))
             have HXA1 := hide hxa1
             have HXA2 := hide hxa2
             have HEA := hide (blk_lt (hst.each ea xa (updE_same _ _ _)).blk)
             clear hst hkp hxa1 hxa2 hea HS1)
          | (go_at_call 11
             refine (Define_fresh HS2.out ⟨#[98]⟩ u s2.out HSU.out HFU.out n2'.out (by rw [upd_other _ _ (fun h => HAB.out h.symm)]) (by omega) HB2.out.size).mono ?_
             rintro e w3 ⟨rfl, eb, xb, heb, hxb1, hxb2, hst, hkp⟩
             have HS3 := hide hst
             have HB3 := hide (HB2.out.trans (hkp.below (B := w.heap.size) HB2.out.size (fun i h => by omega)))
             have HXB1 := hide hxb1
             have HXB2 := hide hxb2
             have HNE := hide (show ea ≠ eb by have := HEA.out; omega)
             clear hst hkp hxb1 hxb2 heb HS2))
      all_goals
        have HFA := hide (show upd (upd (fun _ => none) ⟨#[97]⟩ (some ea)) ⟨#[98]⟩ (some eb) ⟨#[97]⟩ = some ea by rw [upd_other _ _ HAB.out, upd_same])
        have HFB := hide (show upd (upd (fun _ => none) ⟨#[97]⟩ (some ea)) ⟨#[98]⟩ (some eb) ⟨#[98]⟩ = some eb by rw [upd_same])
        have HFC := hide (show upd (upd (fun _ => none) ⟨#[97]⟩ (some ea)) ⟨#[98]⟩ (some eb) ⟨#[99]⟩ = none by rw [upd_other _ _ (by decide), upd_other _ _ (by decide)])
        generalize upd (upd (fun _ => none) ⟨#[97]⟩ (some ea)) ⟨#[98]⟩ (some eb) = F at HS3 HFA HFB HFC
        have HXa := hide (show updE (updE (fun _ => none) ea xa) eb xb ea = some xa by rw [updE_other _ _ HNE.out, updE_same])
        have HXb := hide (show updE (updE (fun _ => none) ea xa) eb xb eb = some xb by rw [updE_same])
        generalize updE (updE (fun _ => none) ea xa) eb xb = E at HS3 HXa HXb
        go_wp2_with fail
        go_loopw [10] (fun t10 wr => ∃ (k : Nat) (E : Nat → Option EntS) (x y : EntS), t10 = .int .i64 k ∧ k ≤ i ∧ Hid (Sto w.heap.size wr (w.heap.size + 1) w.heap.size F 2 E) ∧ Hid (E ea = some x ∧ x.kind = 1 ∧ x.L = [plain (joinP (P.take k))]) ∧ Hid (E eb = some y ∧ y.kind = 1 ∧ y.L = [plain u]) ∧ Hid (Below w.heap.size w wr)) (fun t10 _ => i - (intOf t10).toNat)
        case atStart => exact ⟨0, E, xa, xb, rfl, Nat.zero_le _, HS3, hide ⟨HXa.out, HXA1.out, HXA2.out⟩, hide ⟨HXb.out, HXB1.out, HXB2.out⟩, HB3⟩
        case round =>
          obtain ⟨k, E4, x, y, rfl, hk, HS, HX, HY, HB⟩ := hrel
          by_cases hki : k < i
          · obtain ⟨p, hp⟩ : ∃ p, P[k]? = some p := ⟨_, List.getElem?_eq_getElem (by have := HLN.out; omega)⟩
            obtain ⟨b1, o1, rfl, p0⟩ := rd_str (HP.out.below HB.out) hp
            have hj := joinP_take hp
            have HFK := hide (show fitsB (joinP (P.take k) ++ p) = true by rw [← hj]; exact HFI.out (k + 1) (by omega))
            have HPF := hide (show fitsB p = true from fits_right HFK.out)
            have HPZ := hide (show p.size ≤ 9223372036854775807 from by have := fits_size HPF.out; omega)
            have HJ := hide hj
            have hlo := (HS.out.low ea x HX.out.1).1
            have hk1 : k < n1 := by omega
            have hk5 : k < 50 := by omega
            clear hp hj
            go_wp2_with (go_at_call 16
                         refine (Append_text HS.out ⟨#[97]⟩ p s1.out HPZ.out HPF.out n1'.out HFA.out HX.out.1 HX.out.2.1 HX.out.2.2 HFK.out (by omega) HB.out.size).mono ?_
                         rintro e w5 ⟨rfl, x5, hx1, hx2, hst, hkp⟩
                         have HX5 := hide (show updE E4 ea x5 ea = some x5 ∧ x5.kind = 1 ∧ x5.L = [plain (joinP (P.take (k + 1)))] from ⟨updE_same _ _ _, hx1, by rw [HJ.out]; exact hx2⟩)
                         have HS5 := hide hst
                         have HB5 := hide (HB.out.trans (hkp.below (B := w.heap.size) HB.out.size (fun i h => by omega)))
                         clear hst hkp hx1 hx2)
            go_roundw
            case rel => exact ⟨k + 1, updE E4 ea x5, x5, y, by go_num, by omega, HS5, HX5, hide ⟨by rw [updE_other _ _ (fun h => HNE.out h.symm)]; exact HY.out.1, HY.out.2⟩, HB5⟩
            case measure => simp [intOf]; omega
          · obtain rfl : k = i := by omega
            have HXu := hide (show x.L = [plain u] by rw [HU.out]; exact HX.out.2.2)
            go_upto_region 20 with (first
              | (go_at_call 13
                 refine (Text_string HS.out ⟨#[97]⟩ s1.out HFA.out HX.out.1 HX.out.2.1 HXu.out).mono ?_
                 rintro e w' ⟨rfl, rfl⟩
                 have HT1 := HXu
                 clear HXu)
              | (go_at_call 13
                 refine (Text_string HS.out ⟨#[98]⟩ s2.out HFB.out HY.out.1 HY.out.2.1 HY.out.2.2).mono ?_
                 rintro e w' ⟨rfl, rfl⟩))
            clear HX HY
            by_cases h300 : 300 < n2
            · go_wp2_with (go_at_call 9; refine (sane_any _).mono ?_; rintro e w6 ⟨rfl, q⟩; have Q := hide (HB.out.trans (q.mono HB.out.size)); clear q)
              go_ret
              exact ⟨rfl, Q.out⟩
            · cases hall : L.all lineB with
              | false =>
                have HALL := hide hall
                clear hall
                go_wp2_with (first
                  | (go_at_call 18; refine (AreLines_any A2 n2 c2 L _ _ (HL.out.below HB.out) (by omega)).mono ?_; rw [HALL.out]; rintro e w5 ⟨rfl, q⟩; have Q5 := hide (HB.out.trans (q.mono HB.out.size)); clear q)
                  | (go_at_call 9; refine (sane_any _).mono ?_; rintro e w6 ⟨rfl, q⟩; have Q := hide (Q5.out.trans (q.mono Q5.out.size)); clear q))
                go_ret
                exact ⟨rfl, Q.out⟩
              | true =>
                have HALL := hide hall
                clear hall
                obtain ⟨m, hm, hm2⟩ : ∃ m : Nat, (IntKind.u64.wrap z).tmod ((n2 : Int) + 1) = (m : Int) ∧ m ≤ n2 := by
                  have h0 : 0 ≤ IntKind.u64.wrap z := by rw [IntKind.wrap_u64]; omega
                  have h1 := Int.emod_nonneg (IntKind.u64.wrap z) (show ((n2 : Int) + 1) ≠ 0 by omega)
                  have h2 := Int.emod_lt_of_pos (IntKind.u64.wrap z) (show 0 < ((n2 : Int) + 1) by omega)
                  refine ⟨((IntKind.u64.wrap z).tmod ((n2 : Int) + 1)).toNat, ?_, ?_⟩ <;> (rw [Int.tmod_eq_emod_of_nonneg h0]; omega)
                go_upto_region 23 with (go_at_call 18; refine (AreLines_any A2 n2 c2 L _ _ (HL.out.below HB.out) (by omega)).mono ?_; rw [HALL.out]; rintro e w5 ⟨rfl, q⟩; have HS5 := hide (HS.out.below q); have Q5 := hide (HB.out.trans (q.mono HB.out.size)); clear q)
                have HF := hide (fair_good HALL.out HF.out)
                have HLB := hide (HL.out.bound)
                have HOK := hide (show ∀ k, (ok2 k ∧ k < w.heap.size) → k ≠ w.heap.size from fun k hk e => by omega)
                have hs1 := fun W => slice_high W A2 n2 c2 m (by omega)
                have hs2 := fun W => slice_low W A2 n2 c2 m hm2
                have n3' : Hid (nameB ⟨#[99]⟩ = true) := hide (by kernel_rfl)
                have s3 : Hid ((⟨#[99]⟩ : ByteArray).size ≤ 9223372036854775807) := hide (show 1 ≤ 9223372036854775807 by omega)
                have HAT := hide (show (L.take m).all lineB = true from List.all_eq_true.2 fun x hx => List.all_eq_true.1 HALL.out x (List.mem_of_mem_take hx))
                have HAD := hide (show (L.drop m).all lineB = true from List.all_eq_true.2 fun x hx => List.all_eq_true.1 HALL.out x (List.mem_of_mem_drop hx))
                have HFT := hide (fair_sub HF.out (M := L.take m) fun x hx => List.mem_of_mem_take hx)
                have HFD := hide (fair_sub HF.out (M := L.drop m) fun x hx => List.mem_of_mem_drop hx)
                have HLL := hide HL.out.1
                obtain ⟨A7, hA7⟩ : ∃ A7, A7 = cutA A2 c2 m := ⟨_, rfl⟩
                have HRT := hide (rd_high HLB.out hm2)
                have HRD := hide (show lineK.Rd w (fun k => ok2 k ∧ k < w.heap.size) A7 (n2 - m) (L.drop m) by rw [hA7]; exact rd_low HLB.out hm2 hn2)
                rw [← hA7] at hs2
                obtain ⟨n7, hn7⟩ : ∃ n7, n7 = n2 - m := ⟨_, rfl⟩
                obtain ⟨c7, hc7⟩ : ∃ c7, c7 = c2 - m := ⟨_, rfl⟩
                rw [← hn7] at HRD hs2
                rw [← hc7] at hs2
                have HN7 := hide hn7
                clear hA7 hn7 hc7
                go_upto_region 25 with (first
                  | (go_at_call 15
                     refine (Macro_new HS5.out ⟨#[99]⟩ s3.out A2 m c2 (L.take m) _ (HRT.out.below Q5.out) (by omega) HFT.out HAT.out HOK.out n3'.out HFC.out (by omega) Q5.out.size).mono ?_
                     rintro e w6 ⟨rfl, ec, xc, hc1, hc2, hst, hkp⟩
                     have HS6 := hide hst
                     have HB6 := hide (Q5.out.trans (hkp.below (B := w.heap.size) Q5.out.size (fun i h => by omega)))
                     have HC1 := hide hc1
                     have HC2 := hide hc2
                     clear hst hkp hc1 hc2)
                  | (go_at_call 19
                     refine (Add_old HS6.out ⟨#[99]⟩ s3.out A7 n7 c7 (L.drop m) _ (HRD.out.below HB6.out) HFD.out HAD.out HOK.out (upd_same _ _ _) (updE_same _ _ _) HC1.out (by rw [HC2.out]; exact HFT.out) (by rw [HC2.out, List.length_take]; have := HN7.out; have := HLL.out; omega) (by omega) HB6.out.size).mono ?_
                     rintro e w7 ⟨rfl, xd, hd1, hd2, hst, hkp⟩
                     have HS7 := hide hst
                     have hlo := (HS6.out.low ec xc (updE_same _ _ _)).1
                     have HB7 := hide (HB6.out.trans (hkp.below (B := w.heap.size) HB6.out.size (fun i h => by omega)))
                     have HD2 := hide (show xd.L = L by rw [hd2, HC2.out, List.take_append_drop])
                     clear hst hkp hd1 hd2 hlo))
                go_wp2_with (first
                  | (go_at_call 20
                     refine (Lines_some HS7.out ⟨#[99]⟩ s3.out (upd_same _ _ _) (updE_same _ _ _) (by rw [HD2.out]; exact HF.out)).mono ?_
                     rw [HD2.out]
                     rintro e w8 ⟨v8, rfl, ⟨ok8, A8, c8, rfl, -, -, hr8, -, -, -⟩, q8⟩
                     rw [HLL.out] at hr8
                     rw [HLL.out]
                     have HR8 := hide hr8
                     have HB8 := hide (HB7.out.trans (q8.mono HB7.out.size))
                     clear hr8 q8)
                  | (go_at_call 21
                     refine (SameLines_any A8 c8 A2 c2 n2 L _ _ _ (by omega) HR8.out (HL.out.below HB8.out) HF.out).mono ?_
                     rintro e w9 ⟨rfl, q9⟩
                     have HB9 := hide (HB8.out.trans (q9.mono HB8.out.size))
                     clear q9)
                  | (go_at_call 9; refine (sane_any _).mono ?_; rintro e w10 ⟨rfl, q⟩; have Q := hide (HB9.out.trans (q.mono HB9.out.size)); clear q))
                go_ret
                exact ⟨rfl, Q.out⟩
end Go.Proofs.Ytbchokjhbjnfcaa
