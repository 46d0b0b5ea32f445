/- The law TrapFirst: the plain law and the walk. -/
import Derived.Test.YtpndigonlgnbeaaT22
set_option linter.unusedVariables false
set_option linter.unusedSimpArgs false
namespace Go.Proofs.Ytpndigonlgnbeaa
open Go.RowKit
set_option maxHeartbeats 3200000
set_option maxRecDepth 1000000

theorem sorted_cut (a : Int) : ∀ M : List TrapT, TS.Sorted TK M → (∀ y ∈ M, a ≤ y.at_) →
    (M.filter fun y => y.at_ == a) = M.take (M.filter fun y => y.at_ == a).length ∧ (M.filter fun y => decide (a < y.at_)) = M.drop (M.filter fun y => y.at_ == a).length
  | [], _, _ => ⟨rfl, rfl⟩
  | y :: M, hs, hb => by
    have hx := List.pairwise_cons.1 hs
    obtain ⟨i1, i2⟩ := sorted_cut a M hx.2 (fun z hz => hb z (by simp [hz]))
    have hy : a ≤ y.at_ := hb y (by simp)
    by_cases he : y.at_ = a
    · have e1 : (y.at_ == a) = true := beq_iff_eq.2 he
      have e2 : decide (a < y.at_) = false := decide_eq_false (by omega)
      rw [List.filter_cons, List.filter_cons, if_pos e1, if_neg (by simp [e2])]
      rw [List.length_cons, List.take_succ_cons, List.drop_succ_cons, ← i1]
      exact ⟨rfl, i2⟩
    · have e1 : (y.at_ == a) = false := beq_eq_false_iff_ne.2 he
      have hno : (M.filter fun y => y.at_ == a) = [] := by
        rw [List.filter_eq_nil_iff]
        intro z hz
        have h3 : y.at_ ≤ z.at_ := hx.1 z hz
        simp
        omega
      have hall : (M.filter fun y => decide (a < y.at_)) = M := by
        rw [List.filter_eq_self]
        intro z hz
        have h3 : y.at_ ≤ z.at_ := hx.1 z hz
        simp
        omega
      have e2 : decide (a < y.at_) = true := decide_eq_true (by omega)
      rw [List.filter_cons, List.filter_cons, if_neg (by simp [e1]), if_pos e2, hno, hall]
      exact ⟨rfl, rfl⟩

theorem passP_sorted (len f t : Int) (ts : List TrapT) : TS.Sorted TK (passP len f t ts) := List.Pairwise.sublist List.filter_sublist (onP_sorted len ts)
theorem passP_mem {len f t : Int} {ts : List TrapT} {x : TrapT} (h : x ∈ passP len f t ts) : f < x.at_ ∧ x.at_ ≤ t ∧ 0 ≤ x.at_ ∧ x.at_ < len := by
  obtain ⟨h1, h2⟩ := List.mem_filter.1 h
  obtain ⟨h3, h4⟩ := onP_bounds h1
  have o : outP f t x = (decide (x.at_ ≤ f) || decide (t < x.at_)) := rfl
  rw [o] at h2
  simp at h2
  exact ⟨h2.1, h2.2, h3, h4⟩
theorem passP_later (len a b t : Int) (ts : List TrapT) (h : a ≤ b) : passP len b t ts = (passP len a t ts).filter fun y => decide (b < y.at_) := by
  unfold passP
  rw [List.filter_filter]
  congr 1
  funext y
  have o1 : outP a t y = (decide (y.at_ ≤ a) || decide (t < y.at_)) := rfl
  have o2 : outP b t y = (decide (y.at_ ≤ b) || decide (t < y.at_)) := rfl
  rw [o1, o2]
  by_cases h1 : y.at_ ≤ b <;> by_cases h2 : y.at_ ≤ a <;> by_cases h3 : t < y.at_ <;> simp [h1, h2, h3] <;> omega
theorem passP_end (len a : Int) (ts : List TrapT) (h : len ≤ 1300) : passP len a len ts = passP len a 1300 ts := by
  unfold passP
  apply List.filter_congr
  intro y hy
  obtain ⟨h1, h2⟩ := onP_bounds hy
  have o1 : outP a len y = (decide (y.at_ ≤ a) || decide (len < y.at_)) := rfl
  have o2 : outP a 1300 y = (decide (y.at_ ≤ a) || decide (1300 < y.at_)) := rfl
  rw [o1, o2, decide_eq_false (show ¬ len < y.at_ by omega), decide_eq_false (show ¬ 1300 < y.at_ by omega)]

/-- One step of the law: what the first place's names are, and what is left. -/
theorem first_step {z a : Int} {ts : List TrapT} {k : Nat} {x : TrapT} (hk : passP z a 1300 ts = (onP z ts).drop k) (hx : (passP z a 1300 ts)[0]? = some x) :
    ∃ m, m = (namesP (passP z a 1300 ts) x.at_).length ∧ 0 < m ∧ k + m ≤ (onP z ts).length ∧ passP z x.at_ 1300 ts = (onP z ts).drop (k + m) ∧
      ∀ i j, i < m → j = k + i → ∃ y, (onP z ts)[j]? = some y ∧ y.at_ = x.at_ ∧ (namesP (passP z a 1300 ts) x.at_)[i]? = some y.nm := by
  obtain ⟨M, hM⟩ : ∃ M, M = passP z a 1300 ts := ⟨_, rfl⟩
  have hs := passP_sorted z a 1300 ts
  have hxm := passP_mem (List.mem_of_getElem? hx)
  have hlat := passP_later z a x.at_ 1300 ts (by omega)
  rw [← hM] at hk hx hs hlat ⊢
  have hge : ∀ y ∈ M, x.at_ ≤ y.at_ := by
    cases M with
    | nil => cases hx
    | cons x' M =>
      injection hx with hx
      subst hx
      intro y hy
      rcases List.mem_cons.1 hy with rfl | hy
      · exact Int.le_refl _
      · exact (List.pairwise_cons.1 hs).1 y hy
  obtain ⟨c1, c2⟩ := sorted_cut x.at_ M hs hge
  have hn : namesP M x.at_ = (M.filter fun y => y.at_ == x.at_).map TrapT.nm := rfl
  have hpos : 0 < (M.filter fun y => y.at_ == x.at_).length := by
    rw [List.length_pos_iff_exists_mem]
    exact ⟨x, List.mem_filter.2 ⟨List.mem_of_getElem? hx, by simp⟩⟩
  have hml : (M.filter fun y => y.at_ == x.at_).length ≤ M.length := List.length_filter_le _ _
  have hMl : M.length = (onP z ts).length - k := by rw [hk, List.length_drop]
  refine ⟨_, rfl, by rw [hn, List.length_map]; exact hpos, ?_, ?_, ?_⟩
  · rw [hn, List.length_map]; omega
  · rw [hn, List.length_map, hlat, c2]
    rw [← List.drop_drop, ← hk]
  · intro i j hi hj
    rw [hn, List.length_map] at hi
    have hiM : i < M.length := by omega
    refine ⟨M[i], ?_, ?_, ?_⟩
    · subst hj
      rw [← List.getElem?_eq_getElem hiM, hk, List.getElem?_drop]
    · have : M[i] ∈ (M.filter fun y => y.at_ == x.at_) := by
        rw [c1]
        rw [List.mem_iff_getElem]
        exact ⟨i, by rw [List.length_take]; omega, by rw [List.getElem_take]⟩
      exact beq_iff_eq.1 (List.mem_filter.1 this).2
    · rw [hn, List.getElem?_map, c1, List.getElem?_take, if_pos hi, List.getElem?_eq_getElem hiM]
      rfl

theorem rd_str {w : World} {ok : Nat → Prop} {A : Option Addr} {n i : Nat} {l : List ByteArray} {x : ByteArray} (h : Kind.str.Rd w ok A n l) (hx : l[i]? = some x) :
    ∃ b off, A = some ⟨b, off, none⟩ ∧ w.cell? ⟨b, off + i, none⟩ = some (.string x) := by
  obtain ⟨hi, rfl⟩ := List.getElem?_eq_some_iff.1 hx
  obtain ⟨b, off, cs, e, _, hK, hc⟩ := h.at_ hi
  subst hK
  have h0 := hc 0 _ rfl
  rw [show off + i * Kind.str.sz + 0 = off + i from by show off + i * 1 + 0 = off + i; omega] at h0
  exact ⟨b, off, e, h0⟩

theorem truth_true (w : World) : Calls Try.prog 19 #[.bool true] w fun e w' => e = .returned (.int .i64 1) ∧ w = w' := by
  go_enter Try.func19, Try.ntmps19
  go_wp2_with fail
  go_ret
  exact ⟨rfl, rfl⟩

theorem TrapFirst_any (A : Option Addr) (n c : Nat) (l : List DeedT) (len : Int) (w : World) (hA : deedK.Rd w (fun _ => True) A n l) (hn : n ≤ 9223372036854775807) :
    Calls Try.prog 5 #[.slice A n c, .int .i64 len] w fun e w' => e = .returned (.bool true) ∧ Below w.heap.size w w' := by
  obtain ⟨z, hz⟩ : ∃ z : Nat, (z : Int) = (IntKind.u64.wrap len).tmod 1201 ∧ z ≤ 1200 := by
    have h0 : 0 ≤ IntKind.u64.wrap len := by rw [IntKind.wrap_u64]; omega
    refine ⟨((IntKind.u64.wrap len).tmod 1201).toNat, ?_, ?_⟩
    · rw [Int.tmod_eq_emod_of_nonneg h0]; omega
    · rw [Int.tmod_eq_emod_of_nonneg h0]; omega
  obtain ⟨hz1, hz2⟩ := hz
  have hz1' := hz1.symm
  have HRA := hide hA
  clear hA hz1
  go_enter Try.func5, Try.ntmps5
  go_upto_region 3 with (go_at_call 8; refine (planted_trap A n c l _ _ HRA.out hn).mono ?_; rintro e w1 ⟨g, v, ts, rfl, q1, q2, q3⟩; have HT := hide q1; have HL := hide q2; have HB := hide q3; clear q1 q2 q3)
  have HZ := hide hz1'
  clear hz1'
  have htl := HL.out
  have e1 := hide (passP_all z ts (by omega))
  go_upto_region 4 with (go_at_call 10; refine (On_trap w.heap.size g v ts z _ HT.out (by omega)).mono ?_; rintro e w3 ⟨v3, rfl, q1, q2⟩; obtain ⟨A3, c3, rfl, -, -, -, -, q3⟩ := Kind.Own.form q1; have HT3 := hide (HT.out.below q2); have HB3 := hide (HB.out.trans (q2.mono HB.out.size)); have HR3 := hide q3; clear q1 q2 q3)
  have hol := onP_len z ts
  obtain ⟨L, hL⟩ : ∃ L, L = onP z ts := ⟨_, rfl⟩
  rw [← hL] at HR3 hol ⊢
  have HLL := hide hL
  clear hL
  go_wp2_with fail
  go_loopw [8, 9, 10, 11, 12, 13] (fun t8 t9 _ _ _ _ wr => ∃ (a : Int) (k : Nat), t8 = .int .i64 a ∧ t9 = .int .i64 k ∧ -1 ≤ a ∧ a < z ∧ k ≤ L.length ∧ Hid (passP z a 1300 ts = L.drop k) ∧ Hid (Below w3.heap.size w3 wr)) (fun _ t9 _ _ _ _ _ => L.length - (intOf t9).toNat)
  case atStart => exact ⟨-1, 0, rfl, rfl, by omega, by omega, by omega, hide (by rw [e1.out, HLL.out]; rfl), hide (Below.refl _ _)⟩
  case round =>
    obtain ⟨a, k, rfl, rfl, ha1, ha2, hk, HP, HK⟩ := hrel
    cases hx : (passP z a 1300 ts)[0]? with
    | none =>
      have he : passP z a 1300 ts = [] := List.eq_nil_of_length_eq_zero (by have := List.getElem?_eq_none_iff.1 hx; omega)
      have hkl : k = L.length := by
        have h1 := HP.out
        rw [he] at h1
        have h2 := congrArg List.length h1
        rw [List.length_drop, List.length_nil] at h2
        omega
      have hd : distP z a ts = z - a := distP_end (by omega) (by rw [passP_end _ _ _ (by omega)]; exact he)
      subst hkl
      have HE := hide he
      have HD := hide hd
      have HBW := hide (HB3.out.trans (HK.out.mono HB3.out.size))
      clear hx he hd
      have hie : ((L.length : Int) == (L.length : Int)) = true := by simp
      have hie2 : ((z : Int) - a == (z : Int) - a) = true := by simp
      go_wp2_with (first
        | (go_at_call 17; refine (First_none w.heap.size g v ts z a 1300 _ (HT3.out.below HK.out) (by omega) (by omega) (by omega) (by omega) (by omega) (by omega) HE.out).mono ?_; rintro e w4 ⟨rfl, q1⟩; have Q4 := hide q1; clear q1)
        | (go_at_call 18; refine (Distance_any w.heap.size g v ts z a _ ((HT3.out.below HK.out).below Q4.out) (by omega)).mono ?_; rw [HD.out]; rintro e w5 ⟨rfl, q1⟩; have Q5 := hide q1; clear q1)
        | (go_at_call 19; refine (truth_true _).mono ?_; rintro e w' ⟨rfl, rfl⟩)
        | (go_at_call 11; refine (sane_any _).mono ?_; rintro e w6 ⟨rfl, q1⟩; have Q6 := hide q1; clear q1))
      all_goals go_ret
      all_goals exact ⟨rfl, below_self (below_self (below_self HBW.out Q4.out) Q5.out) Q6.out⟩
    | some x =>
      obtain ⟨p1, p2, p3, p4⟩ := passP_mem (List.mem_of_getElem? hx)
      obtain ⟨m, hm1, hm2, hm3, hm4, hm5⟩ := first_step (k := k) (by rw [HP.out, HLL.out]) hx
      rw [← HLL.out] at hm3 hm4 hm5
      have hd : distP z a ts = x.at_ - a := distP_at (by omega) (by rw [passP_end _ _ _ (by omega)]; exact hx)
      have hpl := passP_len z a 1300 ts
      have HD := hide hd
      have HX := hide hx
      have HM1 := hide hm1
      have HM4 := hide hm4
      have HM5 := hide hm5
      clear hx hd hm1 hm4 hm5 p2 p3
      obtain ⟨NM, hNM⟩ : ∃ NM, NM = namesP (passP z a 1300 ts) x.at_ := ⟨_, rfl⟩
      rw [← hNM] at HM1 HM5
      have HNM := hide hNM
      clear hNM
      have hml : m = NM.length := HM1.out
      subst hml
      clear HM1
      have hmm : NM.length ≤ 1000000 := by omega
      have hie : ((NM.length : Int) == 0) = false := beq_eq_false_iff_ne.2 (by omega)
      have hie2 : ((x.at_ - a) != (x.at_ - a)) = false := by simp
      go_upto_region 9 with (first
        | (go_at_call 17; refine (First_ok w.heap.size g v ts z a 1300 _ (HT3.out.below HK.out) (by omega) (by omega) (by omega) (by omega) (by omega) (by omega) x HX.out).mono ?_; rw [← HNM.out]; rintro e w4 ⟨v4, rfl, q1, q2⟩; obtain ⟨A4, c4, rfl, -, -, -, -, q3⟩ := Kind.Own.form q1; have HN4 := hide q3; have Q4 := hide q2; clear q1 q2 q3)
        | (go_at_call 18; refine (Distance_any w.heap.size g v ts z a _ ((HT3.out.below HK.out).below Q4.out) (by omega)).mono ?_; rw [HD.out]; rintro e w5 ⟨rfl, q1⟩; have Q5 := hide q1; clear q1))
      have HN5 := hide (HN4.out.below Q5.out)
      have HR5 := hide (((HR3.out.below HK.out).below Q4.out).below Q5.out)
      have HBW := hide (below_self (below_self HK.out Q4.out) Q5.out)
      clear HN4 Q4 Q5
      go_wp2_with fail
      go_loopw [9, 13] (fun t9 t13 wx => ∃ i j : Nat, t13 = .int .i64 i ∧ t9 = .int .i64 j ∧ i ≤ NM.length ∧ Hid (j = k + i) ∧ Hid (Below w5.heap.size w5 wx)) (fun _ t13 _ => NM.length - (intOf t13).toNat)
      case atStart => exact ⟨0, k, rfl, rfl, Nat.zero_le _, hide rfl, hide (Below.refl _ _)⟩
      case round =>
        obtain ⟨i, j, rfl, rfl, hi, HJ, HX5⟩ := hrel
        by_cases hlt : i < NM.length
        · obtain ⟨y, y1, y2, y3⟩ := HM5.out i j hlt HJ.out
          obtain ⟨b5, o5, rfl, q0, q1⟩ := rd_trap (HR5.out.below HX5.out) y1
          obtain ⟨b6, o6, rfl, q2⟩ := rd_str (HN5.out.below HX5.out) y3
          rw [y2] at q0
          have jl : j < L.length := by have := HJ.out; omega
          have C0 := cell_after q0
          have C1 := cell_after q1
          have C2 := cell_after q2
          clear q0 q1 q2 y1 y2 y3
          go_upto_region 12 with fail
          have jz1 : (j : Int) < (L.length : Int) := by omega
          have jz2 : (i : Int) < (NM.length : Int) := by omega
          have jz3 : decide (L.length ≤ j) = false := decide_eq_false (by omega)
          refine wp_region_after (by kernel_rfl) (by kernel_rfl) ?_
          repeat (go_big_quiet_step (fail))
          refine wpQuiet_nil ?_
          intro _ hw'
          obtain ⟨q, rfl⟩ := hw'
          have HQ := hide q.h
          clear C0 C1 C2
          generalize q.W = wq at HQ ⊢
          go_wp2_with fail
          go_roundw
          case rel => exact ⟨i + 1, j + 1, by go_num, by go_num, by omega, hide (by have := HJ.out; omega), hide (below_self HX5.out HQ.out)⟩
          case measure => simp [intOf]; omega
        · have hin : i = NM.length := by omega
          subst hin
          go_wp2_with fail
          go_roundw
          case rel => exact ⟨x.at_, j, rfl, rfl, by omega, by omega, by have := HJ.out; omega, hide (by rw [HM4.out, HJ.out]), hide (below_self HBW.out HX5.out)⟩
          case measure => have := HJ.out; simp [intOf]; omega
end Go.Proofs.Ytpndigonlgnbeaa
