/- The document's table: Passed, First, Distance. -/
import Derived.Test.YtpndigonlgnbeaaT33
import Derived.Test.YtpndigonlgnbeaaT22
set_option linter.unusedVariables false
set_option linter.unusedSimpArgs false
namespace Go.Proofs.Ytpndigonlgnbeaa
open Go.RowKit
set_option maxHeartbeats 1600000
set_option maxRecDepth 1000000

theorem RPassed_ok (base g : Nat) (v : Value) (ts : List TrapT) (len f t : Int) (w : World) (hT : RTab base w g v ts) (hn : ts.length ≤ 1000000) (h1 : ¬ len < 0) (h2 : ¬ 1000000 < len) (h3 : ¬ f < -1) (h4 : ¬ 1000000 < t) (h5 : ¬ t < f) :
    Calls Try.prog 42 #[.pointer (some ⟨g, 0, none⟩), .int .i64 len, .int .i64 f, .int .i64 t] w fun e w' => ∃ v', e = .returned (.tuple #[v', .int .i64 0]) ∧ trapK.Own 84 w' (fun _ => False) w.heap.size v' (passP len f t ts) ∧ Below w.heap.size w w' := by
  have HT := hide hT
  have h0 := hT.c0
  have hol := onP_len len ts
  obtain ⟨L, hL⟩ : ∃ L, L = onP len ts := ⟨_, rfl⟩
  have hpp : passP len f t ts = L.filter (fun x => !outP f t x) := by rw [hL]; rfl
  rw [hpp]
  rw [← hL] at hol
  have HL := hide hL
  clear hT hL hpp
  obtain ⟨p, hp⟩ : ∃ p : TrapT → Bool, p = fun x => !outP f t x := ⟨_, rfl⟩
  rw [← hp]
  have hpe : ∀ x, p x = (decide (f < x.at_) && decide (x.at_ ≤ t)) := by
    intro x
    have o : outP f t x = (decide (x.at_ ≤ f) || decide (t < x.at_)) := rfl
    rw [hp]
    show (!outP f t x) = _
    rw [o, Bool.eq_iff_iff]
    simp
  have HPE := hide hpe
  clear hp hpe
  go_enter Try.func42, Try.ntmps42
  go_wp2_with (first
    | (go_at_call 47; refine (no_some _ _ _ h0).mono ?_; rintro e w' ⟨rfl, rfl⟩)
    | (go_at_call 40; refine (ROn_tab base g v ts len _ HT.out hn).mono ?_; rw [← HL.out]; rintro e w1 ⟨v1, rfl, q1, q2⟩; obtain ⟨A1, c1, rfl, -, -, -, -, q3⟩ := Kind.Own.form q1; have HR := hide q3; have Q2 := hide q2; clear q1 q2 q3))
  go_loopw [10, 12] (fun t10 t12 wr => ∃ i : Nat, t12 = .int .i64 i ∧ i ≤ L.length ∧ Hid (trapK.Own 84 wr (fun _ => False) w1.heap.size t10 ((L.take i).filter p)) ∧ Hid (Below w1.heap.size w1 wr)) (fun _ t12 _ => L.length - (intOf t12).toNat)
  case atStart => exact ⟨0, rfl, Nat.zero_le _, Kind.Own.nil _ _ _ _ _, Below.refl _ _⟩
  case round =>
    obtain ⟨i, rfl, hi, HO, HK⟩ := hrel
    by_cases hlt : i < L.length
    · obtain ⟨x, hx⟩ : ∃ x, L[i]? = some x := ⟨_, List.getElem?_eq_getElem hlt⟩
      obtain ⟨bb, off, rfl, x0, x1⟩ := rd_trap (HR.out.below HK.out) hx
      have hxk : L[i] = x := (List.getElem?_eq_some_iff.1 hx).2
      have HXK := hide hxk
      have htl := take_len p L i
      clear hx hxk
      by_cases c1 : f < x.at_
      · by_cases c2 : x.at_ ≤ t
        · have hpx : p L[i] = true := by rw [HXK.out, HPE.out]; simp [c1, c2]
          have HPX := hide hpx
          have HKS := hide HK.out.size
          clear hpx
          go_wp2_with (at_builtin; refine wpList_append_one_at (ok := fun _ => False) (base := w1.heap.size) wr trapK rfl _ _ 66 rfl 84 _ 24 Try.underlying66 info_rtrap rfl (by decide) (by decide) u10 ((L.take i).filter p) rfl HO.out x [.int .i64 x.at_, .string x.nm] _ rfl rfl rfl (fun k h => h.elim) (by omega) HKS.out ?_; intro v2 w2 hown2 hg2 hat2; have HO3 := hide hown2; have HG := hide hg2; have HAT := hide hat2; clear hown2 hg2 hat2)
          go_roundw
          case rel => exact ⟨i + 1, by go_num, by omega, hide (by rw [take_hit p L i hlt HPX.out, HXK.out]; exact HO3.out), hide (HK.out.grown HG.out HKS.out (fun j hj => (HO.out.lt j hj).1))⟩
          case measure => simp [intOf]; omega
        · have hpx : p L[i] = false := by rw [HXK.out, HPE.out]; simp [c1, c2]
          have HPX := hide hpx
          clear hpx
          go_wp2_with fail
          go_roundw
          case rel => exact ⟨i + 1, by go_num, by omega, hide (by rw [take_miss p L i hlt HPX.out]; exact HO.out), HK⟩
          case measure => simp [intOf]; omega
      · have hpx : p L[i] = false := by rw [HXK.out, HPE.out]; simp [c1]
        have HPX := hide hpx
        clear hpx
        go_wp2_with fail
        go_roundw
        case rel => exact ⟨i + 1, by go_num, by omega, hide (by rw [take_miss p L i hlt HPX.out]; exact HO.out), HK⟩
        case measure => simp [intOf]; omega
    · have hin : i = L.length := by omega
      subst hin
      have ho := HO.out
      rw [List.take_length] at ho
      have HO1 := hide ho
      clear ho hlt
      go_wp2_with fail
      go_ret2
      exact ⟨_, rfl, HO1.out.lower Q2.out.size, Q2.out.trans (HK.out.mono Q2.out.size)⟩

theorem RPassed_bad (base g : Nat) (v : Value) (ts : List TrapT) (len f t : Int) (w : World) (hT : RTab base w g v ts) (hbad : len < 0 ∨ 1000000 < len ∨ f < -1 ∨ 1000000 < t ∨ t < f) :
    Calls Try.prog 42 #[.pointer (some ⟨g, 0, none⟩), .int .i64 len, .int .i64 f, .int .i64 t] w fun e w' => e = .returned (.tuple #[.slice none 0 0, .int .i64 1]) ∧ Below w.heap.size w w' := by
  have h0 := hT.c0
  clear hT
  have hb := hide hbad
  clear hbad
  have key : ∀ h1 : (len < 0 ∨ ¬ len < 0), (1000000 < len ∨ ¬ 1000000 < len) → (f < -1 ∨ ¬ f < -1) → (1000000 < t ∨ ¬ 1000000 < t) → Calls Try.prog 42 #[.pointer (some ⟨g, 0, none⟩), .int .i64 len, .int .i64 f, .int .i64 t] w fun e w' => e = .returned (.tuple #[.slice none 0 0, .int .i64 1]) ∧ Below w.heap.size w w' := by
    intro h1 h2 h3 h4
    rcases h1 with h1 | h1
    · clear h2 h3 h4 hb
      go_enter Try.func42, Try.ntmps42
      go_wp2_with (go_at_call 47; refine (no_some _ _ _ h0).mono ?_; rintro e w' ⟨rfl, rfl⟩)
      go_ret2
      exact ⟨rfl, Below.refl _ _⟩
    rcases h2 with h2 | h2
    · clear h3 h4 hb
      go_enter Try.func42, Try.ntmps42
      go_wp2_with (go_at_call 47; refine (no_some _ _ _ h0).mono ?_; rintro e w' ⟨rfl, rfl⟩)
      go_ret2
      exact ⟨rfl, Below.refl _ _⟩
    rcases h3 with h3 | h3
    · clear h4 hb
      go_enter Try.func42, Try.ntmps42
      go_wp2_with (go_at_call 47; refine (no_some _ _ _ h0).mono ?_; rintro e w' ⟨rfl, rfl⟩)
      go_ret2
      exact ⟨rfl, Below.refl _ _⟩
    rcases h4 with h4 | h4
    · clear hb
      go_enter Try.func42, Try.ntmps42
      go_wp2_with (go_at_call 47; refine (no_some _ _ _ h0).mono ?_; rintro e w' ⟨rfl, rfl⟩)
      go_ret2
      exact ⟨rfl, Below.refl _ _⟩
    have h5 : t < f := by have := hb.out; omega
    clear hb
    go_enter Try.func42, Try.ntmps42
    go_wp2_with (go_at_call 47; refine (no_some _ _ _ h0).mono ?_; rintro e w' ⟨rfl, rfl⟩)
    go_ret2
    exact ⟨rfl, Below.refl _ _⟩
  exact key (Classical.em _) (Classical.em _) (Classical.em _) (Classical.em _)

/-- Where a walk over a row of traps that is sorted stops, no more of that place come. -/
theorem names_stop {L : List TrapT} (hs : TS.Sorted TK L) {x y : TrapT} {i : Nat} (hx : L[0]? = some x) (hy : L[i]? = some y) (hne : y.at_ ≠ x.at_) : namesP (L.take i) x.at_ = namesP L x.at_ := by
  obtain ⟨hl, rfl⟩ := List.getElem?_eq_some_iff.1 hy
  obtain ⟨h0, rfl⟩ := List.getElem?_eq_some_iff.1 hx
  have h1 : (L[0]'h0).at_ ≤ L[i].at_ := by
    rcases Nat.eq_zero_or_pos i with h | h
    · subst h; exact Int.le_refl _
    · exact List.pairwise_iff_getElem.1 hs 0 i (by omega) hl h
  have hd : (L.drop i).filter (fun z => z.at_ == (L[0]'h0).at_) = [] := by
    rw [List.filter_eq_nil_iff]
    intro z hz
    obtain ⟨j, hj, rfl⟩ := List.mem_iff_getElem.1 hz
    rw [List.length_drop] at hj
    rw [List.getElem_drop]
    have h2 : L[i].at_ ≤ (L[i + j]'(by omega)).at_ := by
      rcases Nat.eq_zero_or_pos j with h | h
      · subst h; exact Int.le_refl _
      · exact List.pairwise_iff_getElem.1 hs i (i + j) hl (by omega) (by omega)
    simp
    omega
  have h3 : L.filter (fun z => z.at_ == (L[0]'h0).at_) = (L.take i).filter (fun z => z.at_ == (L[0]'h0).at_) ++ (L.drop i).filter (fun z => z.at_ == (L[0]'h0).at_) := by rw [← List.filter_append, List.take_append_drop]
  unfold namesP
  rw [h3, hd, List.append_nil]

theorem RFirst_ok (base g : Nat) (v : Value) (ts : List TrapT) (len f t : Int) (w : World) (hT : RTab base w g v ts) (hn : ts.length ≤ 1000000) (h1 : ¬ len < 0) (h2 : ¬ 1000000 < len) (h3 : ¬ f < -1) (h4 : ¬ 1000000 < t) (h5 : ¬ t < f)
    (x : TrapT) (hx : (passP len f t ts)[0]? = some x) :
    Calls Try.prog 43 #[.pointer (some ⟨g, 0, none⟩), .int .i64 len, .int .i64 f, .int .i64 t] w fun e w' => ∃ v', e = .returned (.tuple #[.int .i64 x.at_, v', .int .i64 0]) ∧ Kind.str.Own 9 w' (fun _ => False) w.heap.size v' (namesP (passP len f t ts) x.at_) ∧ Below w.heap.size w w' := by
  have HT := hide hT
  have hpl : (passP len f t ts).length ≤ ts.length := Nat.le_trans (List.length_filter_le _ _) (onP_len len ts)
  have hps : TS.Sorted TK (passP len f t ts) := List.Pairwise.sublist List.filter_sublist (onP_sorted len ts)
  obtain ⟨L, hL⟩ : ∃ L, L = passP len f t ts := ⟨_, rfl⟩
  rw [← hL] at hx hpl hps ⊢
  have HL := hide hL
  have HX := hide hx
  have HS := hide hps
  have hl0 : 0 < L.length := (List.getElem?_eq_some_iff.1 hx).1
  have hie : ((L.length : Int) == 0) = false := beq_eq_false_iff_ne.2 (by omega)
  clear hT hL hx hps
  go_enter Try.func43, Try.ntmps43
  go_wp2_with (go_at_call 42; refine (RPassed_ok base g v ts len f t _ HT.out hn h1 h2 h3 h4 h5).mono ?_; rw [← HL.out]; rintro e w1 ⟨v1, rfl, q1, q2⟩; obtain ⟨A1, c1, rfl, -, -, -, -, -⟩ := Kind.Own.form q1; obtain ⟨g1, rfl, -, -, hrow⟩ := Kind.Own.rowAt q1 hl0; have HR := hide hrow; have Q2 := hide q2; clear q1 q2 hrow)
  go_loopw [13, 14] (fun t13 t14 wr => ∃ k : Nat, t14 = .int .i64 k ∧ k ≤ L.length ∧ Hid (Kind.str.Own 9 wr (fun _ => False) w1.heap.size t13 (namesP (L.take k) x.at_)) ∧ Hid (Below w1.heap.size w1 wr)) (fun _ t14 _ => L.length - (intOf t14).toNat)
  case atStart => exact ⟨0, rfl, Nat.zero_le _, Kind.Own.nil _ _ _ _ _, Below.refl _ _⟩
  case round =>
    obtain ⟨k, rfl, hk, HO, HK⟩ := hrel
    obtain ⟨z0, -, -, -⟩ := row_facts (i := 0) (HR.out.below HK.out) HX.out
    have hnl := namesP_len L x.at_ k
    by_cases hlt : k < L.length
    · obtain ⟨y, hy⟩ : ∃ y, L[k]? = some y := ⟨_, List.getElem?_eq_getElem hlt⟩
      obtain ⟨y0, -, -, -⟩ := row_facts (i := k) (HR.out.below HK.out) hy
      have hyk : L[k] = y := (List.getElem?_eq_some_iff.1 hy).2
      have HYK := hide hyk
      have HY := hide hy
      clear hyk hy
      have C0 := cell_after y0
      have C1 := cell_after z0
      clear y0 z0
      go_upto_region 8 with fail
      have jz1 : (k : Int) < (L.length : Int) := by omega
      have jz2 : (0 : Int) < (L.length : Int) := by omega
      have jz3 : decide (k < L.length) = true := decide_eq_true hlt
      by_cases he : y.at_ = x.at_
      · have hcmp : (y.at_ == x.at_) = true := beq_iff_eq.2 he
        have HE := hide hcmp
        clear he
        refine wp_region_after (by kernel_rfl) (by kernel_rfl) ?_
        repeat (go_big_quiet_step (fail))
        refine wpQuiet_nil ?_
        intro _ hw'
        obtain ⟨q, rfl⟩ := hw'
        have HQ := hide q.h
        clear C0 C1 jz3
        generalize q.W = wq at HQ ⊢
        obtain ⟨-, d1, -, -⟩ := row_facts (i := k) ((HR.out.below HK.out).below HQ.out) HY.out
        have HO2 := hide (HO.out.below HQ.out)
        have hsz : w1.heap.size ≤ wq.heap.size := Nat.le_trans HK.out.size HQ.out.size
        have HSZ := hide hsz
        clear hsz
        go_wp2_with (at_builtin; refine wpList_append_one_at (ok := fun _ => False) (base := w1.heap.size) wq Kind.str rfl _ _ 47 rfl 9 _ 16 Try.underlying47 info_str rfl (by decide) (by decide) u13 (namesP (L.take k) x.at_) rfl HO2.out y.nm [.string y.nm] _ rfl rfl rfl (fun k h => h.elim) (by omega) HSZ.out ?_; intro v2 w2 hown2 hg2 hat2; have HO3 := hide hown2; have HG := hide hg2; have HAT := hide hat2; clear hown2 hg2 hat2)
        go_roundw
        case rel => exact ⟨k + 1, by go_num, by omega, hide (by rw [namesP_take hlt (by rw [HYK.out]; exact HE.out), HYK.out]; exact HO3.out), hide ((HK.out.trans (HQ.out.mono HK.out.size)).grown HG.out HSZ.out (fun j hj => (HO2.out.lt j hj).1))⟩
        case measure => simp [intOf]; omega
      · have hcmp : (y.at_ == x.at_) = false := beq_eq_false_iff_ne.2 he
        have HE := hide he
        clear he
        refine wp_region_after (by kernel_rfl) (by kernel_rfl) ?_
        repeat (go_big_quiet_step (fail))
        refine wpQuiet_nil ?_
        intro _ hw'
        obtain ⟨q, rfl⟩ := hw'
        have HQ := hide q.h
        clear C0 C1 jz3
        generalize q.W = wq at HQ ⊢
        obtain ⟨z0, -, -, -⟩ := row_facts (i := 0) ((HR.out.below HK.out).below HQ.out) HX.out
        go_wp2_with fail
        go_ret3
        refine ⟨_, rfl, ?_, Q2.out.trans ((HK.out.trans (HQ.out.mono HK.out.size)).mono Q2.out.size)⟩
        rw [← names_stop HS.out HX.out HY.out HE.out]
        exact (HO.out.below HQ.out).lower Q2.out.size
    · have hkn : k = L.length := by omega
      subst hkn
      have ho := HO.out
      rw [List.take_length] at ho
      have HO1 := hide ho
      clear ho
      have HZ0 := hide z0
      clear z0
      go_upto_region 8 with fail
      have jz3 : decide (L.length < L.length) = false := decide_eq_false hlt
      refine wp_region_after (by kernel_rfl) (by kernel_rfl) ?_
      repeat (go_big_quiet_step (fail))
      refine wpQuiet_nil ?_
      intro _ hw'
      obtain ⟨q, rfl⟩ := hw'
      have HQ := hide q.h
      clear jz3
      generalize q.W = wq at HQ ⊢
      obtain ⟨z0, -, -, -⟩ := row_facts (i := 0) ((HR.out.below HK.out).below HQ.out) HX.out
      go_wp2_with fail
      go_ret3
      exact ⟨_, rfl, (HO1.out.below HQ.out).lower Q2.out.size, Q2.out.trans ((HK.out.trans (HQ.out.mono HK.out.size)).mono Q2.out.size)⟩

theorem RFirst_none (base g : Nat) (v : Value) (ts : List TrapT) (len f t : Int) (w : World) (hT : RTab base w g v ts) (hn : ts.length ≤ 1000000) (h1 : ¬ len < 0) (h2 : ¬ 1000000 < len) (h3 : ¬ f < -1) (h4 : ¬ 1000000 < t) (h5 : ¬ t < f)
    (hx : passP len f t ts = []) :
    Calls Try.prog 43 #[.pointer (some ⟨g, 0, none⟩), .int .i64 len, .int .i64 f, .int .i64 t] w fun e w' => e = .returned (.tuple #[.int .i64 0, .slice none 0 0, .int .i64 3]) ∧ Below w.heap.size w w' := by
  have HT := hide hT
  have HX := hide hx
  clear hT hx
  go_enter Try.func43, Try.ntmps43
  go_wp2_with (go_at_call 42; refine (RPassed_ok base g v ts len f t _ HT.out hn h1 h2 h3 h4 h5).mono ?_; rw [HX.out]; rintro e w1 ⟨v1, rfl, q1, q2⟩; obtain ⟨A1, c1, rfl, -, -, -, -, -⟩ := Kind.Own.form q1; have Q2 := hide q2; clear q1 q2)
  go_ret3
  exact ⟨rfl, Q2.out⟩

theorem RFirst_bad (base g : Nat) (v : Value) (ts : List TrapT) (len f t : Int) (w : World) (hT : RTab base w g v ts) (hbad : len < 0 ∨ 1000000 < len ∨ f < -1 ∨ 1000000 < t ∨ t < f) :
    Calls Try.prog 43 #[.pointer (some ⟨g, 0, none⟩), .int .i64 len, .int .i64 f, .int .i64 t] w fun e w' => e = .returned (.tuple #[.int .i64 0, .slice none 0 0, .int .i64 1]) ∧ Below w.heap.size w w' := by
  have HT := hide hT
  have HX := hide hbad
  clear hT hbad
  go_enter Try.func43, Try.ntmps43
  go_wp2_with (go_at_call 42; refine (RPassed_bad base g v ts len f t _ HT.out HX.out).mono ?_; rintro e w1 ⟨rfl, q2⟩; have Q2 := hide q2; clear q2)
  go_ret3
  exact ⟨rfl, Q2.out⟩

theorem filter_first {p : TrapT → Bool} : ∀ {L : List TrapT} {i : Nat} {y : TrapT}, L[i]? = some y → p y = true → (∀ j z, j < i → L[j]? = some z → p z = false) → (L.filter p)[0]? = some y
  | [], _, _, h, _, _ => by cases h
  | z :: L, 0, y, h, hp, _ => by
    have : z = y := by simpa using h
    subst this
    rw [List.filter_cons, if_pos hp]
    rfl
  | z :: L, i + 1, y, h, hp, hno => by
    have h0 := hno 0 z (by omega) rfl
    rw [List.filter_cons, if_neg (by simp [h0])]
    exact filter_first (i := i) (by simpa using h) hp (fun j u hj hu => hno (j + 1) u (by omega) (by simpa using hu))

theorem pass_end (len f : Int) (ts : List TrapT) : passP len f len ts = (onP len ts).filter fun x => decide (f < x.at_) := by
  unfold passP
  apply List.filter_congr
  intro y hy
  obtain ⟨h1, h2⟩ := onP_bounds hy
  have o1 : outP f len y = (decide (y.at_ ≤ f) || decide (len < y.at_)) := rfl
  rw [o1, decide_eq_false (show ¬ len < y.at_ by omega), Bool.eq_iff_iff]
  simp

theorem RDistance_any (base g : Nat) (v : Value) (ts : List TrapT) (len f : Int) (w : World) (hT : RTab base w g v ts) (hn : ts.length ≤ 1000000) :
    Calls Try.prog 41 #[.pointer (some ⟨g, 0, none⟩), .int .i64 len, .int .i64 f] w fun e w' => e = .returned (.int .i64 (distP len f ts)) ∧ Below w.heap.size w w' := by
  have HT := hide hT
  have hc1 := hT.c0
  clear hT
  by_cases h1 : len < 0
  · rw [distP_out (.inl h1)]
    go_enter Try.func41, Try.ntmps41
    go_wp2_with (go_at_call 47; refine (no_some _ _ _ hc1).mono ?_; rintro e w' ⟨rfl, rfl⟩)
    go_ret
    exact ⟨rfl, Below.refl _ _⟩
  by_cases h2 : 1000000 < len
  · rw [distP_out (.inr (.inl h2))]
    go_enter Try.func41, Try.ntmps41
    go_wp2_with (go_at_call 47; refine (no_some _ _ _ hc1).mono ?_; rintro e w' ⟨rfl, rfl⟩)
    go_ret
    exact ⟨rfl, Below.refl _ _⟩
  by_cases h3 : f < -1
  · rw [distP_out (.inr (.inr (.inl h3)))]
    go_enter Try.func41, Try.ntmps41
    go_wp2_with (go_at_call 47; refine (no_some _ _ _ hc1).mono ?_; rintro e w' ⟨rfl, rfl⟩)
    go_ret
    exact ⟨rfl, Below.refl _ _⟩
  by_cases h4 : len ≤ f
  · rw [distP_out (.inr (.inr (.inr h4)))]
    go_enter Try.func41, Try.ntmps41
    go_wp2_with (go_at_call 47; refine (no_some _ _ _ hc1).mono ?_; rintro e w' ⟨rfl, rfl⟩)
    go_ret
    exact ⟨rfl, Below.refl _ _⟩
  have hno : ¬ (len < 0 ∨ 1000000 < len ∨ f < -1 ∨ len ≤ f) := by omega
  have HNO := hide hno
  clear hno
  have hol := onP_len len ts
  have hob : ∀ x ∈ onP len ts, 0 ≤ x.at_ ∧ x.at_ < len := fun x hx => onP_bounds hx
  have hpe := pass_end len f ts
  obtain ⟨L, hL⟩ : ∃ L, L = onP len ts := ⟨_, rfl⟩
  rw [← hL] at hol hob hpe
  have HL := hide hL
  have HOB := hide hob
  have HPE := hide hpe
  obtain ⟨d, hd⟩ : ∃ d, d = distP len f ts := ⟨_, rfl⟩
  rw [← hd]
  have HD := hide hd
  clear hL hob hpe hd
  go_enter Try.func41, Try.ntmps41
  go_wp2_with (first
    | (go_at_call 47; refine (no_some _ _ _ hc1).mono ?_; rintro e w' ⟨rfl, rfl⟩)
    | (go_at_call 40; refine (ROn_tab base g v ts len _ HT.out hn).mono ?_; rw [← HL.out]; rintro e w1 ⟨v1, rfl, q1, q2⟩; obtain ⟨A1, c1, rfl, -, -, -, -, q3⟩ := Kind.Own.form q1; have HR := hide q3; have Q2 := hide q2; clear q1 q2 q3))
  go_loopw [8] (fun t8 wr => ∃ i : Nat, t8 = .int .i64 i ∧ i ≤ L.length ∧ Hid (∀ j z, j < i → L[j]? = some z → decide (f < z.at_) = false) ∧ w1 = wr) (fun t8 _ => L.length - (intOf t8).toNat)
  case atStart => exact ⟨0, rfl, Nat.zero_le _, hide (fun j z h => absurd h (by omega)), rfl⟩
  case round =>
    obtain ⟨i, rfl, hi, HF, rfl⟩ := hrel
    by_cases hlt : i < L.length
    · obtain ⟨x, hx⟩ : ∃ x, L[i]? = some x := ⟨_, List.getElem?_eq_getElem hlt⟩
      obtain ⟨bb, off, rfl, x0, x1⟩ := rd_trap HR.out hx
      obtain ⟨b1, b2⟩ := HOB.out x (List.mem_of_getElem? hx)
      have HX := hide hx
      clear hx
      by_cases c1 : f < x.at_
      · have hdd : d = x.at_ - f := by
          rw [HD.out]
          exact distP_at HNO.out (by rw [HPE.out]; exact filter_first HX.out (decide_eq_true c1) HF.out)
        have HDD := hide hdd
        clear hdd
        go_wp2_with fail
        go_ret
        exact ⟨by rw [HDD.out]; rfl, Q2.out⟩
      · go_wp2_with fail
        go_roundw
        case rel => exact ⟨i + 1, by go_num, by omega, hide (fun j z hj hz => by
          rcases Nat.lt_or_ge j i with h | h
          · exact HF.out j z h hz
          · have : j = i := by omega
            subst this
            rw [HX.out] at hz
            injection hz with hz
            rw [← hz]
            exact decide_eq_false c1), by first | rfl | trivial⟩
        case measure => simp [intOf]; omega
    · have hin : i = L.length := by omega
      subst hin
      have hdd : d = len - f := by
        rw [HD.out]
        refine distP_end HNO.out ?_
        rw [HPE.out, List.filter_eq_nil_iff]
        intro z hz
        obtain ⟨j, hj, rfl⟩ := List.mem_iff_getElem.1 hz
        have := HF.out j _ hj (List.getElem?_eq_getElem hj)
        simpa using this
      have HDD := hide hdd
      clear hdd hlt
      go_wp2_with fail
      go_ret
      exact ⟨by rw [HDD.out]; rfl, Q2.out⟩
end Go.Proofs.Ytpndigonlgnbeaa
