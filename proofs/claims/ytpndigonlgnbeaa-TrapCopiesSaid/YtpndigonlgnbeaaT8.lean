/- slices.symMergeCmpFunc at traps: the whole. -/
import Derived.Test.YtpndigonlgnbeaaT7
import Derived.Test.YtpndigonlgnbeaaT8a
import Derived.Deep.DeepCutAuto
set_option linter.unusedVariables false
set_option linter.unusedSimpArgs false
namespace Go.Proofs.Ytpndigonlgnbeaa
open Go.RowKit
set_option maxHeartbeats 3200000
set_option maxRecDepth 1000000

/-- Where the two parts are cut. -/
theorem cut_parts {U V : List TrapT} (hU : TS.Sorted TK U) (hV : TS.Sorted TK V) (i j : Nat) (hi : i ≤ U.length) (hj : j ≤ V.length)
    (hL : ∀ k l x y, U[k]? = some x → V[l]? = some y → k + 1 = i → l = j → x.at_ ≤ y.at_) (hG : ∀ k l x y, U[k]? = some x → V[l]? = some y → k = i → l + 1 = j → y.at_ < x.at_) :
    ∃ U1 U2 V1 V2, U = U1 ++ U2 ∧ V = V1 ++ V2 ∧ U1.length = i ∧ V1.length = j ∧ TS.mrg TK U V = TS.mrg TK U1 V1 ++ TS.mrg TK U2 V2 ∧ TS.Sorted TK U1 ∧ TS.Sorted TK U2 ∧ TS.Sorted TK V1 ∧ TS.Sorted TK V2 := by
  have eU : U = U.take i ++ U.drop i := (List.take_append_drop i U).symm
  have eV : V = V.take j ++ V.drop j := (List.take_append_drop j V).symm
  have sU : TS.Sorted TK (U.take i ++ U.drop i) := by rw [← eU]; exact hU
  have sV : TS.Sorted TK (V.take j ++ V.drop j) := by rw [← eV]; exact hV
  have gU := List.pairwise_iff_getElem.1 hU
  have gV := List.pairwise_iff_getElem.1 hV
  have h1 : ∀ x ∈ U.take i, ∀ y ∈ V.drop j, TK x ≤ TK y := by
    intro x hx y hy
    obtain ⟨p, hp, rfl⟩ := List.mem_iff_getElem.1 hx
    obtain ⟨q, hq, rfl⟩ := List.mem_iff_getElem.1 hy
    rw [List.length_take] at hp
    rw [List.length_drop] at hq
    rw [List.getElem_take, List.getElem_drop]
    have h3 := hL (i - 1) j _ _ (List.getElem?_eq_getElem (by omega)) (List.getElem?_eq_getElem (by omega)) (by omega) rfl
    have h4 : (U[p]'(by omega)).at_ ≤ (U[i - 1]'(by omega)).at_ := by
      rcases Nat.lt_or_ge p (i - 1) with h | h
      · exact gU p (i - 1) _ _ h
      · have : p = i - 1 := by omega
        subst this; exact Int.le_refl _
    have h5 : (V[j]'(by omega)).at_ ≤ (V[j + q]'(by omega)).at_ := by
      rcases Nat.eq_zero_or_pos q with h | h
      · subst h; exact Int.le_refl _
      · exact gV j (j + q) _ _ (by omega)
    show (U[p]'(by omega)).at_ ≤ (V[j + q]'(by omega)).at_
    omega
  have h2 : ∀ y ∈ V.take j, ∀ x ∈ U.drop i, TK y < TK x := by
    intro y hy x hx
    obtain ⟨q, hq, rfl⟩ := List.mem_iff_getElem.1 hy
    obtain ⟨p, hp, rfl⟩ := List.mem_iff_getElem.1 hx
    rw [List.length_take] at hq
    rw [List.length_drop] at hp
    rw [List.getElem_take, List.getElem_drop]
    have h3 := hG i (j - 1) _ _ (List.getElem?_eq_getElem (by omega)) (List.getElem?_eq_getElem (by omega)) rfl (by omega)
    have h4 : (V[q]'(by omega)).at_ ≤ (V[j - 1]'(by omega)).at_ := by
      rcases Nat.lt_or_ge q (j - 1) with h | h
      · exact gV q (j - 1) _ _ h
      · have : q = j - 1 := by omega
        subst this; exact Int.le_refl _
    have h5 : (U[i]'(by omega)).at_ ≤ (U[i + p]'(by omega)).at_ := by
      rcases Nat.eq_zero_or_pos p with h | h
      · subst h; exact Int.le_refl _
      · exact gU i (i + p) _ _ (by omega)
    show (V[q]'(by omega)).at_ < (U[i + p]'(by omega)).at_
    omega
  refine ⟨U.take i, U.drop i, V.take j, V.drop j, eU, eV, by rw [List.length_take]; omega, by rw [List.length_take]; omega, ?_, (List.pairwise_append.1 sU).1, (List.pairwise_append.1 sU).2.1, (List.pairwise_append.1 sV).1, (List.pairwise_append.1 sV).2.1⟩
  have h := TS.mrg_split sV h1 h2
  rw [← eU, ← eV] at h
  exact h

theorem symMerge3_trap (d : Nat) (ih : SymSaid d) (g0 c n a mid b md s0 r0 : Nat) (ai mi bi : Int) (m pre U V post : List TrapT) (w : World) (hn : n ≤ 1000000000000) (hR : trapK.RowAt 33 w (fun _ => False) g0 c m) (e1 : n = m.length)
    (hm : m = pre ++ (U ++ (V ++ post))) (ha : a = pre.length) (hmid : mid = a + U.length) (hb : b = mid + V.length) (hU : TS.Sorted TK U) (hV : TS.Sorted TK V) (hU2 : 2 ≤ U.length) (hV2 : 2 ≤ V.length) (hd : U.length + V.length ≤ d + 1)
    (hmd : md = (a + b) / 2) (hcase : (md < mid ∧ s0 + b = md + mid ∧ r0 = md) ∨ (mid ≤ md ∧ s0 = a ∧ r0 = mid)) (e2 : ai = a) (e3 : mi = mid) (e4 : bi = b) :
    Calls Try.prog 61 #[.slice (some ⟨g0, 0, none⟩) n c, .int .i64 ai, .int .i64 mi, .int .i64 bi, .func (.func 28) #[] #[]] w fun e w' => e = .returned (.tuple #[]) ∧ trapK.RowAt 33 w' (fun _ => False) g0 c (pre ++ (TS.mrg TK U V ++ post)) ∧ Kept (fun i => i = g0) w w' := by
  subst e2 e3 e4
  have hlen : n = pre.length + U.length + (V.length + post.length) := by rw [e1, hm]; simp; omega
  have hb1 : b ≤ n := by omega
  have hm1 : mid + 2 ≤ b := by omega
  have ha1 : a + 2 ≤ mid := by omega
  have hd0 : (((mid : Int) - (a : Int)) == 1) = false := beq_eq_false_iff_ne.2 (by omega)
  have hd1 : (((b : Int) - (mid : Int)) == 1) = false := beq_eq_false_iff_ne.2 (by omega)
  have emd : ((a : Int) + (b : Int)) / 2 = (md : Int) := by omega
  have hmd1 : 2 * md ≤ a + b := by omega
  have hmd2 : a + b ≤ 2 * md + 1 := by omega
  have hs1 : a ≤ s0 := by omega
  have hs2 : s0 ≤ r0 := by omega
  have hr1 : r0 ≤ mid := by omega
  have hr2 : r0 ≤ md := by omega
  have hsb : md + mid ≤ s0 + b := by omega
  have HR := hide hR
  have HM := hide hm
  have HA := hide ha
  have HMID := hide hmid
  have HB := hide hb
  have E1 := hide e1
  have HLEN := hide hlen
  have HU := hide hU
  have HV := hide hV
  have EMD := hide emd
  have HIH := hide ih
  have HD := hide hd
  have HCASE := hide hcase
  clear hR hm ha hmid hb e1 hlen hU hV emd ih hd hmd hU2 hV2
  clear hcase
  go_enter Try.func61, Try.ntmps61
  go_upto_if 140 with fail
  rw [EMD.out]
  go_cut [20, 21] (fun s20 s21 wx => s20 = .int .i64 s0 ∧ s21 = .int .i64 r0 ∧ w = wx)
  case first =>
    rcases HCASE.out with ⟨c1, c2, c3⟩ | ⟨c1, c2, c3⟩
    · have ec : (md : Int) + (mid : Int) - (b : Int) = (s0 : Int) := by omega
      have EC := hide ec
      have C3 := hide c3
      clear c2 c3 ec
      go_wp2_with fail
      go_meet
      exact ⟨by rw [EC.out], by rw [C3.out], rfl⟩
    · have C2 := hide c2
      have C3 := hide c3
      clear c2 c3
      go_wp2_with fail
      go_meet
      exact ⟨by rw [C2.out], by rw [C3.out], rfl⟩
  case rest =>
    obtain ⟨rfl, rfl, rfl⟩ := hcut
    go_wp2_with fail
    go_loopw [20, 21] (fun ti tj wr => ∃ (i j : Nat), ti = .int .i64 i ∧ tj = .int .i64 j ∧ s0 ≤ i ∧ i ≤ j ∧ j ≤ r0 ∧ Hid ((∀ k l x y, U[k]? = some x → V[l]? = some y → a + k + 1 = i → l + i = md → x.at_ ≤ y.at_) ∧ ∀ k l x y, U[k]? = some x → V[l]? = some y → a + k = j → l + 1 + j = md → y.at_ < x.at_) ∧
        Hid (Below w.heap.size w wr)) (fun ti tj _ => (intOf tj).toNat - (intOf ti).toNat)
    case atStart =>
      refine ⟨s0, r0, rfl, rfl, Nat.le_refl _, hs2, Nat.le_refl _, ⟨fun k l x y hx hy e1 e2 => ?_, fun k l x y hx hy e1 e2 => ?_⟩, Below.refl _ _⟩
      · have h1 := (List.getElem?_eq_some_iff.1 hx).1
        have h2 := (List.getElem?_eq_some_iff.1 hy).1
        have h3 := HB.out
        have h4 := HMID.out
        rcases HCASE.out with ⟨c1, c2, c3⟩ | ⟨c1, c2, c3⟩ <;> omega
      · have h1 := (List.getElem?_eq_some_iff.1 hx).1
        have h2 := (List.getElem?_eq_some_iff.1 hy).1
        have h3 := HB.out
        have h4 := HMID.out
        rcases HCASE.out with ⟨c1, c2, c3⟩ | ⟨c1, c2, c3⟩ <;> omega
    case round =>
      obtain ⟨i, j, rfl, rfl, hi, hij, hj, HH, HK⟩ := hrel
      by_cases hlt : i < j
      · obtain ⟨h, hh⟩ : ∃ h, h = (i + j) / 2 := ⟨_, rfl⟩
        have hh1 : i ≤ h := by omega
        have hh2 : h < j := by omega
        have eh : ((i : Int) + (j : Int)) / 2 = (h : Int) := by omega
        obtain ⟨pc, hpc⟩ : ∃ pc : Nat, pc + 1 + h = md + mid := ⟨md + mid - 1 - h, by omega⟩
        have epc : (md : Int) + (mid : Int) - 1 - (h : Int) = (pc : Int) := by omega
        have hpc1 : mid ≤ pc := by omega
        have hpc2 : pc < b := by omega
        have EH := hide eh
        have EPC := hide epc
        have HPC := hide hpc
        clear hh eh epc hpc
        obtain ⟨x, hx⟩ : ∃ x, U[h - a]? = some x := ⟨_, List.getElem?_eq_getElem (by have := HMID.out; omega)⟩
        obtain ⟨y, hy⟩ : ∃ y, V[pc - mid]? = some y := ⟨_, List.getElem?_eq_getElem (by have := HB.out; omega)⟩
        have hq := HR.out.below HK.out
        rw [HM.out] at hq
        have hx' : (pre ++ (U ++ (V ++ post)))[h]? = some x := at_get pre _ h (h - a) x (by rw [List.getElem?_append_left (List.getElem?_eq_some_iff.1 hx).1, hx]) (by have := HA.out; omega)
        have hy' : (pre ++ (U ++ (V ++ post)))[pc]? = some y := at_get pre _ pc (pc - a) y (by rw [List.getElem?_append_right (by have := HMID.out; omega), show pc - a - U.length = pc - mid from by have := HMID.out; omega, List.getElem?_append_left (List.getElem?_eq_some_iff.1 hy).1, hy]) (by have := HA.out; omega)
        obtain ⟨x0, x1, -, -⟩ := row_facts hq hx'
        obtain ⟨y0, y1, -, -⟩ := row_facts hq hy'
        have X0 := cell_after x0
        have X1 := cell_after x1
        have Y0 := cell_after y0
        have Y1 := cell_after y1
        have HX := hide hx
        have HY := hide hy
        clear x0 x1 y0 y1 hx hy hx' hy' hq
        go_wp2_with fail
        rw [EH.out]
        have jz1 : (h : Int) < (n : Int) := by omega
        have jz2 : (pc : Int) < (n : Int) := by omega
        have jz3 : IntKind.i64.wrap ((md : Int) + (mid : Int) - 1 - (h : Int)) = (pc : Int) := by rw [EPC.out, IntKind.wrap_i64]; omega
        have jz4 := EPC.out
        refine wp_region_after (by kernel_rfl) (by kernel_rfl) ?_
        repeat (go_big_quiet_step ((go_at_call 28; exact calls_after (cmp_any _ _ _))))
        refine wpQuiet_nil ?_
        intro _ hw'
        obtain ⟨q, rfl⟩ := hw'
        have HQ := hide q.h
        clear X0 X1 Y0 Y1 jz3 jz4
        generalize q.W = wq at HQ ⊢
        by_cases hlv : y.at_ < x.at_
        · have hc : cmpI y.at_ x.at_ < 0 := cmpI_lt.2 hlv
          rw [show (!decide (cmpI y.at_ x.at_ < 0)) = false from by simp [hc]]
          go_wp2_with fail
          go_roundw
          case rel =>
            refine ⟨i, h, rfl, rfl, by omega, by omega, by omega, ⟨HH.out.1, fun k l x' y' hx' hy' e1 e2 => ?_⟩, below_self HK.out HQ.out⟩
            have e3 : k = h - a := by omega
            have e4 : l = pc - mid := by have := HPC.out; omega
            subst e3 e4
            have e5 := hx'.symm.trans HX.out
            have e6 := hy'.symm.trans HY.out
            injection e5 with e5
            injection e6 with e6
            subst e5 e6
            exact hlv
          case measure => simp [intOf]; omega
        · have hc : ¬ cmpI y.at_ x.at_ < 0 := fun h => hlv (cmpI_lt.1 h)
          rw [show (!decide (cmpI y.at_ x.at_ < 0)) = true from by simp [hc]]
          go_wp2_with fail
          go_roundw
          case rel =>
            refine ⟨h + 1, j, by go_num, rfl, by omega, by omega, by omega, ⟨fun k l x' y' hx' hy' e1 e2 => ?_, HH.out.2⟩, below_self HK.out HQ.out⟩
            have e3 : k = h - a := by omega
            have e4 : l = pc - mid := by have := HPC.out; omega
            subst e3 e4
            have e5 := hx'.symm.trans HX.out
            have e6 := hy'.symm.trans HY.out
            injection e5 with e5
            injection e6 with e6
            subst e5 e6
            omega
          case measure => simp [intOf]; omega
      · have hij2 : i = j := by omega
        subst hij2
        obtain ⟨en, hen⟩ : ∃ en : Nat, en + i = md + mid := ⟨md + mid - i, by omega⟩
        have een : (md : Int) + (mid : Int) - (i : Int) = (en : Int) := by omega
        have he1 : mid ≤ en := by omega
        have he2 : en ≤ b := by omega
        obtain ⟨U1, U2, V1, V2, hUU, hVV, hu1, hv1, hmm, sU1, sU2, sV1, sV2⟩ := cut_parts HU.out HV.out (i - a) (en - mid) (by have := HMID.out; omega) (by have := HB.out; omega)
          (fun k l x y hx hy e1 e2 => HH.out.1 k l x y hx hy (by omega) (by omega)) (fun k l x y hx hy e1 e2 => HH.out.2 k l x y hx hy (by omega) (by omega))
        have hu2 : U2.length = mid - i := by have h := congrArg List.length hUU; rw [List.length_append] at h; have := HMID.out; omega
        have hv2 : V2.length = b - en := by have h := congrArg List.length hVV; rw [List.length_append] at h; have := HB.out; omega
        have hrow := HR.out.below HK.out
        rw [HM.out, hUU, hVV] at hrow
        have hla : a + (i - a) = i := by omega
        have HROW := hide hrow
        have EEN := hide een
        have HEN := hide hen
        have HU1 := hide hu1
        have HU2 := hide hu2
        have HV1 := hide hv1
        have HV2 := hide hv2
        have HMM := hide hmm
        have HUU := hide hUU
        have HVV := hide hVV
        have SU1 := hide sU1
        have SU2 := hide sU2
        have SV1 := hide sV1
        have SV2 := hide sV2
        clear hrow een hen hu1 hu2 hv1 hv2 hmm hUU hVV sU1 sU2 sV1 sV2 hla
        go_upto_region 38 with fail
        go_cut [24] (fun s wx => s = .int .i64 en ∧ wr = wx)
        case first =>
          go_wp2_with fail
          go_meet
          exact ⟨by rw [EEN.out], rfl⟩
        case rest =>
          obtain ⟨rfl, rfl⟩ := hcut
          rename_i aK
          refine aK _ _ ?_
          clear aK
          have k0 : Kept (fun i => i = g0) w wr := Kept.of_below HK.out
          have l2 : U1.length + a = i := by rw [HU1.out]; omega
          have l3 : U2.length + i = mid := by rw [HU2.out]; omega
          have l4 : V1.length + mid = en := by rw [HV1.out]; omega
          have l5 : V2.length + en = b := by rw [HV2.out]; omega
          have l7 : n = pre.length + (U1.length + U2.length) + (V1.length + V2.length + post.length) := by rw [HLEN.out, HUU.out, HVV.out]; simp
          have l8 : md + mid = en + i := by have := HEN.out; omega
          have ld1 : U1.length + V1.length ≤ d := by have := HD.out; have := HMID.out; have := HB.out; omega
          have ld2 : U2.length + V2.length ≤ d := by have := HD.out; have := HMID.out; have := HB.out; omega
          have hrow := HROW.out
          refine wp_seq (stage39_trap (by kernel_rfl) _ _ g0 n c a mid b md i en d pre U1 U2 V1 V2 post _ hn HA.out l2 l3 l4 l5 l7 l8 hrow _ _ _ _ _ _ _ _ _ _ _ _ _ _ _ _ _ _ _ _ _ _ _ _ _ _ _ _ _ _ _ _ _ _ _ _ _ _ _ _ _ _ _ _ _ _ _ _ _ _ _ _ _ _ _ _ _ _ _ _ _ _ _ _ _ _ _ _ _ _ _ _ _ _ _ _ _ _ _ _ _ _ _ _ _ _ _ _ _ _ _ _ _ _ _ _ _ _ _ _ _ _ _ _ _ _ _ _ _ _ _ _ _ _ _ _ _ _ _ _ _ _ _ _ _ _ _ _ _ _ _ _ _ _ _ _ _ _ _ _ _ _ _ _ _ _ _ _ _ _ _ _ _ _ _ _ _ _ _ _ _ _ _ _ _ _ _ _ _ _ _ _ _ _ _ _ _ _ _ _ _ _ _ _ _ _ _ _ _ _ _ _ _ _ _ _ _ _ _ _ _ _ _ _ _ _ _ _ _ _ _ _ ?_)
          intro v178 v179 v180 v181 v182 v183 v184 v185 v186 v187 v188 v189 v190 v191 w1 r1 k1
          refine wp_seq (stage41_trap (by kernel_rfl) _ _ g0 n c a mid b md i en d pre U1 U2 V1 V2 post _ hn HA.out l2 l3 l4 l5 l7 l8 HIH.out SU1.out SV1.out ld1 r1 _ _ _ _ _ _ _ _ _ _ _ _ _ _ _ _ _ _ _ _ _ _ _ _ _ _ _ _ _ _ _ _ _ _ _ _ _ _ _ _ _ _ _ _ _ _ _ _ _ _ _ _ _ _ _ _ _ _ _ _ _ _ _ _ _ _ _ _ _ _ _ _ _ _ _ _ _ _ _ _ _ _ _ _ _ _ _ _ _ _ _ _ _ _ _ _ _ _ _ _ _ _ _ _ _ _ _ _ _ _ _ _ _ _ _ _ _ _ _ _ _ _ _ _ _ _ _ _ _ _ _ _ _ _ _ _ _ _ _ _ _ _ _ _ _ _ _ _ _ _ _ _ _ _ _ _ _ _ _ _ _ _ _ _ _ _ _ _ _ _ _ _ _ _ _ _ _ _ _ _ _ _ _ _ _ _ _ _ _ _ _ _ _ _ _ _ _ _ _ _ _ _ _ _ _ _ _ _ _ _ _ _ ?_)
          intro v192 v193 v194 v195 v196 v197 v198 v199 v200 v201 v202 v203 v204 v205 w2 r2 k2
          refine Code.wp_mono ?_ (stage43_trap (by kernel_rfl) (fun a' w' => a'.defers = [] ∧ trapK.RowAt 33 w' (fun _ => False) g0 c (pre ++ (TS.mrg TK U V ++ post)) ∧ Kept (fun i => i = g0) w w') (fun _ _ _ => False) g0 n c a mid b md i en d pre U1 U2 V1 V2 post _ hn HA.out l2 l3 l4 l5 l7 l8 HIH.out SU2.out SV2.out ld2 r2 _ _ _ _ _ _ _ _ _ _ _ _ _ _ _ _ _ _ _ _ _ _ _ _ _ _ _ _ _ _ _ _ _ _ _ _ _ _ _ _ _ _ _ _ _ _ _ _ _ _ _ _ _ _ _ _ _ _ _ _ _ _ _ _ _ _ _ _ _ _ _ _ _ _ _ _ _ _ _ _ _ _ _ _ _ _ _ _ _ _ _ _ _ _ _ _ _ _ _ _ _ _ _ _ _ _ _ _ _ _ _ _ _ _ _ _ _ _ _ _ _ _ _ _ _ _ _ _ _ _ _ _ _ _ _ _ _ _ _ _ _ _ _ _ _ _ _ _ _ _ _ _ _ _ _ _ _ _ _ _ _ _ _ _ _ _ _ _ _ _ _ _ _ _ _ _ _ _ _ _ _ _ _ _ _ _ _ _ _ _ _ _ _ _ _ _ _ _ _ _ _ _ _ _ _ _ _ _ _ _ _ _ ?_)
          · rintro e a' w' h
            cases e
            case normal =>
              obtain ⟨h0, h1, h2⟩ := h
              refine bodyPost_end (results_none rfl _ _ _) h0 ?_
              exact ⟨rfl, h1, h2⟩
            all_goals exact h.elim
          · intro v206 v207 v208 v209 v210 v211 v212 v213 v214 v215 v216 v217 v218 v219 w3 r3 k3
            refine ⟨rfl, ?_, ((k0.trans k1 (fun _ _ h => h) (fun _ _ h => h)).trans k2 (fun _ _ h => h) (fun _ _ h => h)).trans k3 (fun _ _ h => h) (fun _ _ h => h)⟩
            rw [HMM.out]
            simpa using r3

/-- The merging of two sorted parts that lie side by side. -/
theorem symMerge_trap : ∀ d, SymSaid d := by
  intro d
  induction d with
  | zero => intro g0 c n a mid b ai mi bi m pre U V post w _ _ _ _ _ _ _ _ _ h1 h2 h3; omega
  | succ d ih =>
    intro g0 c n a mid b ai mi bi m pre U V post w hn hR e1 hm ha hmid hb hU hV h1 h2 h3 e2 e3 e4
    by_cases hu : U.length = 1
    · obtain ⟨x, rfl⟩ := List.length_eq_one_iff.1 hu
      exact symMerge1_trap g0 c n a mid b ai mi bi m pre V post x w hn hR e1 (by simpa using hm) ha (by simpa using hmid) hb hV e2 e3 e4
    · by_cases hv : V.length = 1
      · obtain ⟨y, rfl⟩ := List.length_eq_one_iff.1 hv
        exact symMerge2_trap g0 c n a mid b ai mi bi m pre U post y w hn hR e1 (by simpa using hm) ha hmid (by simpa using hb) hU (by omega) e2 e3 e4
      · obtain ⟨md, hmd⟩ : ∃ md, md = (a + b) / 2 := ⟨_, rfl⟩
        by_cases hc : md < mid
        · exact symMerge3_trap d ih g0 c n a mid b md (md + mid - b) md ai mi bi m pre U V post w hn hR e1 hm ha hmid hb hU hV (by omega) (by omega) h3 hmd (.inl ⟨hc, by omega, rfl⟩) e2 e3 e4
        · exact symMerge3_trap d ih g0 c n a mid b md a mid ai mi bi m pre U V post w hn hR e1 hm ha hmid hb hU hV (by omega) (by omega) h3 hmd (.inr ⟨by omega, rfl, rfl⟩) e2 e3 e4
end Go.Proofs.Ytpndigonlgnbeaa
