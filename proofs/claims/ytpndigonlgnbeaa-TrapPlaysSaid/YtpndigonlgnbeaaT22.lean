/- The trap table: First, Distance. -/
import Derived.Test.YtpndigonlgnbeaaT20
import Derived.Test.YtpndigonlgnbeaaT18
set_option linter.unusedVariables false
set_option linter.unusedSimpArgs false
namespace Go.Proofs.Ytpndigonlgnbeaa
open Go.RowKit
set_option maxHeartbeats 1600000
set_option maxRecDepth 1000000

theorem info_str : (Try.prog.info? 9).map (fun i => (i.zero, i.size, i.bytes)) = some (some (.string ⟨#[]⟩), 1, 16) := by kernel_rfl
/-- The names of the traps at a place. -/
def namesP (L : List TrapT) (a : Int) : List ByteArray := (L.filter fun y => y.at_ == a).map TrapT.nm
theorem namesP_skip {L : List TrapT} {a : Int} {k : Nat} (hk : k < L.length) (h : ((L[k]).at_ == a) = false) : namesP (L.take (k + 1)) a = namesP (L.take k) a := by
  unfold namesP
  rw [List.take_succ_eq_append_getElem hk, List.filter_append]
  simp [h]
theorem namesP_take {L : List TrapT} {a : Int} {k : Nat} (hk : k < L.length) (h : ((L[k]).at_ == a) = true) : namesP (L.take (k + 1)) a = namesP (L.take k) a ++ [L[k].nm] := by
  unfold namesP
  rw [List.take_succ_eq_append_getElem hk, List.filter_append]
  simp only [List.filter_cons, h, if_true, List.filter_nil, List.map_append, List.map_cons, List.map_nil]
theorem namesP_len (L : List TrapT) (a : Int) (k : Nat) : (namesP (L.take k) a).length ≤ L.length := by
  unfold namesP
  rw [List.length_map]
  exact Nat.le_trans (List.length_filter_le _ _) (by rw [List.length_take]; omega)

theorem First_ok (base g : Nat) (v : Value) (ts : List TrapT) (len f t : Int) (w : World) (hT : Tab base w g v ts) (hn : ts.length ≤ 1000000) (h1 : ¬ len < 0) (h2 : ¬ 1000000 < len) (h3 : ¬ f < -1) (h4 : ¬ 1000000 < t) (h5 : ¬ t < f)
    (x : TrapT) (hx : (passP len f t ts)[0]? = some x) :
    Calls Try.prog 17 #[.pointer (some ⟨g, 0, none⟩), .int .i64 len, .int .i64 f, .int .i64 t] w fun e w' => ∃ v', e = .returned (.tuple #[.int .i64 x.at_, v', .int .i64 0]) ∧ Kind.str.Own 9 w' (fun _ => False) w.heap.size v' (namesP (passP len f t ts) x.at_) ∧ Below w.heap.size w w' := by
  have HT := hide hT
  have hpl : (passP len f t ts).length ≤ ts.length := Nat.le_trans (List.length_filter_le _ _) (onP_len len ts)
  obtain ⟨L, hL⟩ : ∃ L, L = passP len f t ts := ⟨_, rfl⟩
  rw [← hL] at hx hpl ⊢
  have HL := hide hL
  have HX := hide hx
  have hl0 : 0 < L.length := (List.getElem?_eq_some_iff.1 hx).1
  have hie : ((L.length : Int) == 0) = false := beq_eq_false_iff_ne.2 (by omega)
  clear hT hL hx
  go_enter Try.func17, Try.ntmps17
  go_wp2_with (go_at_call 9; refine (Passed_ok base g v ts len f t _ HT.out hn h1 h2 h3 h4 h5).mono ?_; rw [← HL.out]; rintro e w1 ⟨v1, rfl, q1, q2⟩; obtain ⟨A1, c1, rfl, -, -, -, -, -⟩ := Kind.Own.form q1; obtain ⟨g1, rfl, -, -, hrow⟩ := Kind.Own.rowAt q1 hl0; have HR := hide hrow; have Q2 := hide q2; clear q1 q2 hrow)
  go_loopw [13, 15, 32] (fun t13 _ t32 wr => ∃ k : Nat, t32 = .int .i64 k ∧ k ≤ L.length ∧ Hid (Kind.str.Own 9 wr (fun _ => False) w1.heap.size t13 (namesP (L.take k) x.at_)) ∧ Hid (Below w1.heap.size w1 wr)) (fun _ _ t32 _ => L.length - (intOf t32).toNat)
  case atStart => exact ⟨0, rfl, Nat.zero_le _, Kind.Own.nil _ _ _ _ _, Below.refl _ _⟩
  case round =>
    obtain ⟨k, rfl, hk, HO, HK⟩ := hrel
    obtain ⟨z0, -, -, -⟩ := row_facts (i := 0) (HR.out.below HK.out) HX.out
    by_cases hlt : k < L.length
    · obtain ⟨y, hy⟩ : ∃ y, L[k]? = some y := ⟨_, List.getElem?_eq_getElem hlt⟩
      obtain ⟨y0, y1, -, -⟩ := row_facts (i := k) (HR.out.below HK.out) hy
      have hyk : L[k] = y := (List.getElem?_eq_some_iff.1 hy).2
      have HYK := hide hyk
      have hal : Below wr.heap.size wr (wr.alloc (.cells #[.int .i64 y.at_, .string y.nm] 33)) := below_one _
      have HAL := hide hal
      have Z0 := hide z0
      have hnl := namesP_len L x.at_ k
      clear hal hyk hy z0
      go_upto_region 10 with fail
      have hnew := blk_new wr (.cells #[.int .i64 y.at_, .string y.nm] 33)
      have hz0 := (cell_same (HAL.out.block g1 (cell_lt Z0.out)) 0).trans Z0.out
      have HAL2 := hide HAL.out
      clear y0 y1
      obtain ⟨wa, hwa⟩ : ∃ wa, wa = wr.alloc (.cells #[.int .i64 y.at_, .string y.nm] 33) := ⟨_, rfl⟩
      rw [← hwa] at hnew hz0 HAL2 ⊢
      have d0 : wa.cell? ⟨wr.heap.size, 0, none⟩ = some (.int .i64 y.at_) := by rw [blk_cell hnew]; rfl
      have HNEW := hide hnew
      clear hwa HAL hnew
      have C0 := cell_after d0
      have C1 := cell_after hz0
      clear d0 hz0
      by_cases he : y.at_ = x.at_
      · have hcmp : (y.at_ == x.at_) = true := beq_iff_eq.2 he
        have HE := hide hcmp
        have HEE := hide he
        clear he
        refine wp_region_after (by kernel_rfl) (by kernel_rfl) ?_
        repeat (go_big_quiet_step (fail))
        refine wpQuiet_nil ?_
        intro _ hw'
        obtain ⟨q, rfl⟩ := hw'
        have HQ := hide q.h
        clear C0 C1
        generalize q.W = wq at HQ ⊢
        have hsb := below_self HAL2.out HQ.out
        have HSB := hide hsb
        have hb := blk_below HNEW.out HQ.out (blk_lt HNEW.out)
        have d1 : wq.cell? ⟨wr.heap.size, 1, none⟩ = some (.string y.nm) := by rw [blk_cell hb]; rfl
        have HO2 := hide (HO.out.below hsb)
        have hsz : w1.heap.size ≤ wq.heap.size := Nat.le_trans HK.out.size HSB.out.size
        have HSZ := hide hsz
        clear hsb hb hsz
        go_wp2_with (at_builtin; refine wpList_append_one_at (ok := fun _ => False) (base := w1.heap.size) wq Kind.str rfl _ _ 47 rfl 9 _ 16 Try.underlying47 info_str rfl (by decide) (by decide) u13 (namesP (L.take k) x.at_) rfl HO2.out y.nm [.string y.nm] _ rfl rfl rfl (fun k h => h.elim) (by omega) HSZ.out ?_; intro v2 w2 hown2 hg2 hat2; have HO3 := hide hown2; have HG := hide hg2; have HAT := hide hat2; clear hown2 hg2 hat2)
        go_roundw
        case rel => exact ⟨k + 1, by go_num, by omega, hide (by rw [namesP_take hlt (by rw [HYK.out]; exact HE.out), HYK.out]; exact HO3.out), hide ((HK.out.trans (HSB.out.mono HK.out.size)).grown HG.out HSZ.out (fun j hj => (HO2.out.lt j hj).1))⟩
        case measure => simp [intOf]; omega
      · have hcmp : (y.at_ == x.at_) = false := beq_eq_false_iff_ne.2 he
        have HE := hide hcmp
        clear he
        refine wp_region_after (by kernel_rfl) (by kernel_rfl) ?_
        repeat (go_big_quiet_step (fail))
        refine wpQuiet_nil ?_
        intro _ hw'
        obtain ⟨q, rfl⟩ := hw'
        have HQ := hide q.h
        clear C0 C1
        generalize q.W = wq at HQ ⊢
        have hsb := below_self HAL2.out HQ.out
        have HSB := hide hsb
        clear hsb
        go_wp2_with fail
        go_roundw
        case rel => exact ⟨k + 1, by go_num, by omega, hide (by rw [namesP_skip hlt (by rw [HYK.out]; exact HE.out)]; exact HO.out.below HSB.out), hide (HK.out.trans (HSB.out.mono HK.out.size))⟩
        case measure => simp [intOf]; omega
    · have hkn : k = L.length := by omega
      subst hkn
      have ho := HO.out
      rw [List.take_length] at ho
      have HO1 := hide ho
      clear ho hlt
      go_wp2_with fail
      go_ret3
      exact ⟨_, rfl, HO1.out.lower Q2.out.size, Q2.out.trans (HK.out.mono Q2.out.size)⟩

theorem First_none (base g : Nat) (v : Value) (ts : List TrapT) (len f t : Int) (w : World) (hT : Tab base w g v ts) (hn : ts.length ≤ 1000000) (h1 : ¬ len < 0) (h2 : ¬ 1000000 < len) (h3 : ¬ f < -1) (h4 : ¬ 1000000 < t) (h5 : ¬ t < f)
    (hx : passP len f t ts = []) :
    Calls Try.prog 17 #[.pointer (some ⟨g, 0, none⟩), .int .i64 len, .int .i64 f, .int .i64 t] w fun e w' => e = .returned (.tuple #[.int .i64 0, .slice none 0 0, .int .i64 3]) ∧ Below w.heap.size w w' := by
  have HT := hide hT
  have HX := hide hx
  clear hT hx
  go_enter Try.func17, Try.ntmps17
  go_wp2_with (go_at_call 9; refine (Passed_ok base g v ts len f t _ HT.out hn h1 h2 h3 h4 h5).mono ?_; rw [HX.out]; rintro e w1 ⟨v1, rfl, q1, q2⟩; obtain ⟨A1, c1, rfl, -, -, -, -, -⟩ := Kind.Own.form q1; have Q2 := hide q2; clear q1 q2)
  go_ret3
  exact ⟨rfl, Q2.out⟩

theorem First_bad (base g : Nat) (v : Value) (ts : List TrapT) (len f t : Int) (w : World) (hT : Tab base w g v ts) (hbad : len < 0 ∨ 1000000 < len ∨ f < -1 ∨ 1000000 < t ∨ t < f) :
    Calls Try.prog 17 #[.pointer (some ⟨g, 0, none⟩), .int .i64 len, .int .i64 f, .int .i64 t] w fun e w' => e = .returned (.tuple #[.int .i64 0, .slice none 0 0, .int .i64 1]) ∧ Below w.heap.size w w' := by
  have HT := hide hT
  have HX := hide hbad
  clear hT hbad
  go_enter Try.func17, Try.ntmps17
  go_wp2_with (go_at_call 9; refine (Passed_bad base g v ts len f t _ HT.out HX.out).mono ?_; rintro e w1 ⟨rfl, q2⟩; have Q2 := hide q2; clear q2)
  go_ret3
  exact ⟨rfl, Q2.out⟩

/-- The way down to the next trap. -/
def distP (len f : Int) (ts : List TrapT) : Int :=
  if len < 0 ∨ 1000000 < len ∨ f < -1 ∨ len ≤ f then 0 else match passP len f len ts with
    | [] => len - f
    | x :: _ => x.at_ - f
theorem distP_out {len f : Int} {ts : List TrapT} (h : len < 0 ∨ 1000000 < len ∨ f < -1 ∨ len ≤ f) : distP len f ts = 0 := by unfold distP; rw [if_pos h]
theorem distP_end {len f : Int} {ts : List TrapT} (h : ¬ (len < 0 ∨ 1000000 < len ∨ f < -1 ∨ len ≤ f)) (hp : passP len f len ts = []) : distP len f ts = len - f := by unfold distP; rw [if_neg h, hp]
theorem distP_at {len f : Int} {ts : List TrapT} {x : TrapT} (h : ¬ (len < 0 ∨ 1000000 < len ∨ f < -1 ∨ len ≤ f)) (hp : (passP len f len ts)[0]? = some x) : distP len f ts = x.at_ - f := by
  unfold distP
  rw [if_neg h]
  cases hl : passP len f len ts with
  | nil => rw [hl] at hp; cases hp
  | cons y L => rw [hl] at hp; cases hp; rfl

theorem Distance_any (base g : Nat) (v : Value) (ts : List TrapT) (len f : Int) (w : World) (hT : Tab base w g v ts) (hn : ts.length ≤ 1000000) :
    Calls Try.prog 18 #[.pointer (some ⟨g, 0, none⟩), .int .i64 len, .int .i64 f] w fun e w' => e = .returned (.int .i64 (distP len f ts)) ∧ Below w.heap.size w w' := by
  have HT := hide hT
  have hc1 := hT.c1
  clear hT
  by_cases h1 : len < 0
  · rw [distP_out (.inl h1)]
    go_enter Try.func18, Try.ntmps18
    go_wp2_with (go_at_call 23; refine (none_some _ _ _ hc1).mono ?_; rintro e w' ⟨rfl, rfl⟩)
    go_ret
    exact ⟨rfl, Below.refl _ _⟩
  by_cases h2 : 1000000 < len
  · rw [distP_out (.inr (.inl h2))]
    go_enter Try.func18, Try.ntmps18
    go_wp2_with (go_at_call 23; refine (none_some _ _ _ hc1).mono ?_; rintro e w' ⟨rfl, rfl⟩)
    go_ret
    exact ⟨rfl, Below.refl _ _⟩
  by_cases h3 : f < -1
  · rw [distP_out (.inr (.inr (.inl h3)))]
    go_enter Try.func18, Try.ntmps18
    go_wp2_with (go_at_call 23; refine (none_some _ _ _ hc1).mono ?_; rintro e w' ⟨rfl, rfl⟩)
    go_ret
    exact ⟨rfl, Below.refl _ _⟩
  by_cases h4 : len ≤ f
  · rw [distP_out (.inr (.inr (.inr h4)))]
    go_enter Try.func18, Try.ntmps18
    go_wp2_with (go_at_call 23; refine (none_some _ _ _ hc1).mono ?_; rintro e w' ⟨rfl, rfl⟩)
    go_ret
    exact ⟨rfl, Below.refl _ _⟩
  have hno : ¬ (len < 0 ∨ 1000000 < len ∨ f < -1 ∨ len ≤ f) := by omega
  have h5 : ¬ len < f := by omega
  have HNO := hide hno
  clear hno
  cases hp : (passP len f len ts)[0]? with
  | none =>
    have he : passP len f len ts = [] := List.eq_nil_of_length_eq_zero (by have := List.getElem?_eq_none_iff.1 hp; omega)
    rw [distP_end HNO.out he]
    have HE := hide he
    clear he hp
    go_enter Try.func18, Try.ntmps18
    go_wp2_with (first
      | (go_at_call 23; refine (none_some _ _ _ hc1).mono ?_; rintro e w' ⟨rfl, rfl⟩)
      | (go_at_call 9; refine (Passed_ok base g v ts len f len _ HT.out hn (by omega) (by omega) (by omega) (by omega) (by omega)).mono ?_; rw [HE.out]; rintro e w1 ⟨v1, rfl, q1, q2⟩; obtain ⟨A1, c1, rfl, -, -, -, -, -⟩ := Kind.Own.form q1; have Q2 := hide q2; clear q1 q2))
    go_ret
    exact ⟨rfl, Q2.out⟩
  | some x =>
    rw [distP_at HNO.out hp]
    have hpl : 0 < (passP len f len ts).length := (List.getElem?_eq_some_iff.1 hp).1
    obtain ⟨hi, hx⟩ : 0 ≤ x.at_ ∧ x.at_ < len := onP_bounds (len := len) (ts := ts) (by
      have h := List.mem_of_getElem? hp
      exact (List.mem_filter.1 h).1)
    obtain ⟨L, hL⟩ : ∃ L, L = passP len f len ts := ⟨_, rfl⟩
    rw [← hL] at hp hpl
    have HL := hide hL
    have HP := hide hp
    clear hL hp
    go_enter Try.func18, Try.ntmps18
    go_wp2_with (first
      | (go_at_call 23; refine (none_some _ _ _ hc1).mono ?_; rintro e w' ⟨rfl, rfl⟩)
      | (go_at_call 9; refine (Passed_ok base g v ts len f len _ HT.out hn (by omega) (by omega) (by omega) (by omega) (by omega)).mono ?_; rw [← HL.out]; rintro e w1 ⟨v1, rfl, q1, q2⟩; obtain ⟨A1, c1, rfl, -, -, -, -, -⟩ := Kind.Own.form q1; obtain ⟨g1, rfl, -, -, hrow⟩ := Kind.Own.rowAt q1 hpl; obtain ⟨z0, -, -, -⟩ := row_facts (i := 0) hrow HP.out; have Q2 := hide q2; clear q1 q2 hrow))
    go_ret
    exact ⟨rfl, Q2.out⟩
end Go.Proofs.Ytpndigonlgnbeaa
