/- The document's side: its small functions: no, place, IsName, Lands, New. -/
import Derived.Test.YtpndigonlgnbeaaT20
import Derived.Test.YtpndigonlgnbeaaT18
set_option linter.unusedVariables false
set_option linter.unusedSimpArgs false
namespace Go.Proofs.Ytpndigonlgnbeaa
open Go.RowKit
set_option maxHeartbeats 1600000
set_option maxRecDepth 1000000

theorem info_rtrap : (Try.prog.info? 84).map (fun i => (i.zero, i.size, i.bytes)) = some (some (.agg #[.int .i64 0, .string ⟨#[]⟩]), 2, 24) := by kernel_rfl
/-- The document's table, at block g. -/
structure RTab (base : Nat) (w : World) (g : Nat) (v : Value) (ts : List TrapT) : Prop where
  blk : w.heap[g]? = some (.cells #[.bool true, v] 68 (0, 0))
  hg : base ≤ g
  own : trapK.Own 84 w (fun _ => False) base v ts
namespace RTab
variable {base : Nat} {w w' : World} {g : Nat} {v : Value} {ts : List TrapT}
theorem c0 (h : RTab base w g v ts) : w.cell? ⟨g, 0, none⟩ = some (.bool true) := by rw [blk_cell h.blk]; rfl
theorem c1 (h : RTab base w g v ts) : w.cell? ⟨g, 1, none⟩ = some v := by rw [blk_cell h.blk]; rfl
theorem lt (h : RTab base w g v ts) : g < w.heap.size := blk_lt h.blk
theorem frozen (h : RTab base w g v ts) (i : Nat) : w.frozen? ⟨g, i, none⟩ = false := blk_frozen h.blk
theorem below (h : RTab base w g v ts) (hb : Below w.heap.size w w') : RTab base w' g v ts := ⟨blk_below h.blk hb h.lt, h.hg, h.own.below hb⟩
theorem kept {S : Nat → Prop} (h : RTab base w g v ts) (hk : Kept S w w') (h1 : ¬ S g) (h2 : ∀ k, v.ownBlock = some k → ¬ S k) : RTab base w' g v ts :=
  ⟨blk_kept h.blk hk h1, h.hg, h.own.step (fun k e => hk.block k (h.own.lt k e).2 (h2 k e)) (fun k hk => hk.elim)⟩
theorem lower {b : Nat} (h : RTab base w g v ts) (hb : b ≤ base) : RTab b w g v ts := ⟨h.blk, Nat.le_trans hb h.hg, h.own.lower hb⟩
end RTab

theorem rnew_any (w : World) : Calls Try.prog 13 #[] w fun e w' => e = .returned (.pointer (some ⟨w.heap.size, 0, none⟩)) ∧ w' = w.alloc (.cells #[.bool true, .slice none 0 0] 68) := by
  go_enter Try.func13, Try.ntmps13
  go_wp2
  go_ret
  exact ⟨rfl, rfl⟩
theorem rnew_tab (w : World) : RTab w.heap.size (w.alloc (.cells #[.bool true, .slice none 0 0] 68)) w.heap.size (.slice none 0 0) [] :=
  ⟨blk_new w _, Nat.le_refl _, Kind.Own.nil _ _ _ _ _⟩
theorem no_some (w : World) (g : Nat) (b : Bool) (h : w.cell? ⟨g, 0, none⟩ = some (.bool b)) : Calls Try.prog 47 #[.pointer (some ⟨g, 0, none⟩)] w fun e w' => e = .returned (.bool !b) ∧ w = w' := by
  go_enter Try.func47, Try.ntmps47
  go_wp2
  go_ret
  exact ⟨rfl, rfl⟩
theorem place_any (n : Int) (w : World) : Calls Try.prog 57 #[.int .i64 n] w fun e w' => e = .returned (.bool !(farB n)) ∧ w = w' := by
  have hf : Hid (farB n = (decide (n < -1000000) || decide (1000000 < n))) := rfl
  by_cases h1 : n < -1000000
  · go_enter Try.func57, Try.ntmps57
    go_wp2_with fail
    go_ret
    exact ⟨ret_bool (by rw [hf.out, decide_eq_true h1]; rfl), rfl⟩
  · go_enter Try.func57, Try.ntmps57
    go_wp2_with fail
    go_ret
    exact ⟨ret_bool (by rw [hf.out, Bool.eq_iff_iff]; simp; omega), rfl⟩

theorem IsName_any (s : ByteArray) (w : World) (hs : s.size ≤ 9223372036854775807) :
    Calls Try.prog 58 #[.string s] w fun e w' => e = .returned (.bool (nameB s)) ∧ w = w' := by
  have hnb : Hid (nameB s = (decide (1 ≤ s.size) && (decide (s.size ≤ 20) && s.data.toList.all goodB))) := rfl
  by_cases h1 : 1 ≤ s.size
  · by_cases h2 : s.size ≤ 20
    · go_enter Try.func58, Try.ntmps58
      go_wp2_with fail
      go_loopw [3] (fun t3 wr => ∃ k : Nat, t3 = .int .i64 k ∧ k ≤ s.size ∧ Hid ((s.data.toList.take k).all goodB = true) ∧ w = wr) (fun t3 _ => s.size - (intOf t3).toNat)
      case atStart => exact ⟨0, rfl, Nat.zero_le _, hide rfl, rfl⟩
      case round =>
        obtain ⟨k, rfl, hk, HG, rfl⟩ := hrel
        by_cases hlt : k < s.size
        · cases hgd : goodB (s[k]'hlt) with
          | true =>
            have hg := hgd
            unfold goodB at hg
            simp at hg
            obtain ⟨⟨g1, g2⟩, g3⟩ := hg
            have HGD := hide hgd
            have G3 : (((s[k]'hlt).toNat : Int) == 93) = false := beq_eq_false_iff_ne.2 (by omega)
            have G1 : ¬ (((s[k]'hlt).toNat : Int) < 33) := by omega
            have G2 : ¬ (126 < ((s[k]'hlt).toNat : Int)) := by omega
            clear hgd g1 g2 g3
            go_wp2_with fail
            go_roundw
            case rel => exact ⟨k + 1, by go_num, by omega, hide (by rw [all_take_succ s k hlt, HG.out, HGD.out]; rfl), by first | trivial | rfl⟩
            case measure => simp [intOf]; omega
          | false =>
            have hg := hgd
            unfold goodB at hg
            have hx : ((s[k]'hlt).toNat : Int) < 33 ∨ ¬ (((s[k]'hlt).toNat : Int) < 33) ∧ 126 < ((s[k]'hlt).toNat : Int) ∨ ¬ (((s[k]'hlt).toNat : Int) < 33) ∧ ¬ (126 < ((s[k]'hlt).toNat : Int)) ∧ (((s[k]'hlt).toNat : Int) == 93) = true := by
              simp at hg
              by_cases c1 : (s[k]'hlt).toNat < 33
              · exact .inl (by omega)
              · by_cases c2 : 126 < (s[k]'hlt).toNat
                · exact .inr (.inl ⟨by omega, by omega⟩)
                · have c3 := hg (by omega) (by omega)
                  exact .inr (.inr ⟨by omega, by omega, beq_iff_eq.2 (by omega)⟩)
            have hno := all_of_take s k hlt hgd
            have HNO := hide hno
            clear hgd hg hno
            rcases hx with c1 | ⟨c1, c2⟩ | ⟨c1, c2, c3⟩
            · go_wp2_with fail
              go_ret
              exact ⟨ret_bool (by rw [hnb.out, HNO.out]; simp), rfl⟩
            · go_wp2_with fail
              go_ret
              exact ⟨ret_bool (by rw [hnb.out, HNO.out]; simp), rfl⟩
            · go_wp2_with fail
              go_ret
              exact ⟨ret_bool (by rw [hnb.out, HNO.out]; simp), rfl⟩
        · have hk2 : k = s.size := by omega
          have h := HG.out
          rw [List.take_of_length_le (by simp; omega)] at h
          have HA := hide h
          clear h
          go_wp2_with fail
          go_ret
          exact ⟨ret_bool (by rw [hnb.out, HA.out]; simp; omega), rfl⟩
    · go_enter Try.func58, Try.ntmps58
      go_wp2_with fail
      go_ret
      exact ⟨ret_bool (by rw [hnb.out]; simp [h1, h2]), rfl⟩
  · go_enter Try.func58, Try.ntmps58
    go_wp2_with fail
    go_ret
    exact ⟨ret_bool (by rw [hnb.out]; simp [h1]), rfl⟩

theorem RLands_any (a len : Int) (w : World) : Calls Try.prog 45 #[.int .i64 a, .int .i64 len] w fun e w' => e = .returned (.tuple #[.int .i64 ((landsP a len).getD 0), .bool (landsP a len).isSome]) ∧ w = w' := by
  cases hf : farB a with
  | true =>
    have hl := hide (landsP_far (a := a) (len := len) (.inl hf))
    go_enter Try.func45, Try.ntmps45
    go_wp2_with (go_at_call 57; refine (place_any _ _).mono ?_; rintro e w' ⟨rfl, rfl⟩)
    go_ret2
    exact ⟨by rw [hl.out]; rfl, rfl⟩
  | false =>
    obtain ⟨b1, b2⟩ := farB_bounds hf
    by_cases h1 : len < 0
    · have hl := hide (landsP_far (a := a) (len := len) (.inr (.inl h1)))
      go_enter Try.func45, Try.ntmps45
      go_wp2_with (go_at_call 57; refine (place_any _ _).mono ?_; rintro e w' ⟨rfl, rfl⟩)
      go_ret2
      exact ⟨by rw [hl.out]; rfl, rfl⟩
    · by_cases h2 : 1000000 < len
      · have hl := hide (landsP_far (a := a) (len := len) (.inr (.inr h2)))
        go_enter Try.func45, Try.ntmps45
        go_wp2_with (go_at_call 57; refine (place_any _ _).mono ?_; rintro e w' ⟨rfl, rfl⟩)
        go_ret2
        exact ⟨by rw [hl.out]; rfl, rfl⟩
      · have h0 : ¬ (farB a = true ∨ len < 0 ∨ 1000000 < len) := by simp [hf]; omega
        obtain ⟨b, hb⟩ : ∃ b, b = if a < 0 then a + len else a := ⟨_, rfl⟩
        have H0 := hide h0
        have HB := hide hb
        clear h0
        by_cases h3 : a < 0
        · rw [if_pos h3] at hb
          by_cases h4 : b < 0 ∨ len ≤ b
          · have hl := hide (landsP_out HB.out h4)
            rcases h4 with h4 | h4
            · rw [hb] at h4
              clear hb
              go_enter Try.func45, Try.ntmps45
              go_wp2_with (go_at_call 57; refine (place_any _ _).mono ?_; rintro e w' ⟨rfl, rfl⟩)
              go_ret2
              exact ⟨by rw [hl.out]; rfl, rfl⟩
            · exact absurd h3 (by omega)
          · have hl := hide (landsP_in H0.out HB.out h4)
            have h5 : ¬ (a + len < 0) := by omega
            have h6 : ¬ (len ≤ a + len) := by omega
            have hbb := hide hb
            clear hb h4
            go_enter Try.func45, Try.ntmps45
            go_wp2_with (go_at_call 57; refine (place_any _ _).mono ?_; rintro e w' ⟨rfl, rfl⟩)
            go_ret2
            exact ⟨by rw [hl.out, hbb.out]; rfl, rfl⟩
        · rw [if_neg h3] at hb
          by_cases h4 : b < 0 ∨ len ≤ b
          · have hl := hide (landsP_out HB.out h4)
            have h6 : len ≤ a := by omega
            have hbb := hide hb
            clear hb h4
            go_enter Try.func45, Try.ntmps45
            go_wp2_with (go_at_call 57; refine (place_any _ _).mono ?_; rintro e w' ⟨rfl, rfl⟩)
            go_ret2
            exact ⟨by rw [hl.out]; rfl, rfl⟩
          · have hl := hide (landsP_in H0.out HB.out h4)
            have h6 : ¬ (len ≤ a) := by omega
            have hbb := hide hb
            clear hb h4
            go_enter Try.func45, Try.ntmps45
            go_wp2_with (go_at_call 57; refine (place_any _ _).mono ?_; rintro e w' ⟨rfl, rfl⟩)
            go_ret2
            exact ⟨by rw [hl.out, hbb.out]; rfl, rfl⟩
end Go.Proofs.Ytpndigonlgnbeaa
