import Derived.Deep.RegionLaw
import Derived.RangeFuncNested
import Derived.RangeFuncBound
import Derived.RangeFuncCalls
import Derived.RangeFuncLeaves
import Derived.OwnWalkIn
import Derived.TacticsInMore
import Derived.LoopNIn
import Derived.LoopIn
import Derived.RangeFuncFrom
import Derived.Test.YteadghhmoggjnaaFM8
set_option linter.unusedVariables false
set_option linter.unusedSimpArgs false
section
section
namespace Go.Proofs.YteadghhmoggjnaaB
open Go.RowKit
open Yteadghhmoggjnaa.Q (S33 k33 z33 k33_open k33_mk k33_mkM k33_openF)
open YteadghhmoggjnaaW.PrintWords (Kd ReadsRow)
set_option maxHeartbeats 3200000
set_option maxRecDepth 1000000
theorem Adjust_grow (A : Option Addr) (n c : Nat) (l : List S33) (len : Int) (odd : Bool) (w : World) (hr : boxK.Rd w (fun _ => True) A n l) (hn : n ≤ 9223372036854775807) (hlen : ∀ x ∈ l, x.f6.length ≤ 9223372036854775807)
    (gf : Nat) (eg : ∀ args w, (callFunc gf args).run Try.prog w = .ok (.enter gf args) w) (hl : Looks 98 (.func (.func gf) #[] #[]) true) (hw : Way 98 gf) (h0 : checkI l [len] = 0) (h1 : 0 < len - widthW l) (h2 : 0 < (growL l).length) :
    Calls Try.prog 11 #[.slice A n c, .int .i64 len, .int .u8 98, .bool odd] w fun e w' => ∃ v, e = .returned (.tuple #[v, .int .i64 (wayOf 98 (len - widthW l)), .int .i64 0]) ∧ Kd.S k33 33 w' w.heap.size (fun _ => True) v (spread l (len - widthW l) odd) ∧ Below w.heap.size w w' := by
  have HR := hide hr
  have HLEN := hide hlen
  have hmm := @run_makeMap Try.prog
  obtain ⟨hva, hfar, hl5⟩ := check_ok h0
  have hwr := width_range hva hl5
  have hlr : 0 ≤ len ∧ len ≤ 10000000 := by
    unfold allI at hfar
    have := List.all_eq_true.1 hfar len (by simp)
    unfold farL at this
    simp at this
    omega
  have HNS := hide (fun (y : S33) (hy : y ∈ l) => show y.f6.length ≤ 17592186044416 from Nat.le_trans (valid_n (List.all_eq_true.1 hva y hy)) (by omega))
  have HNE : Hid (Near 1000000 l) := hide fun y hy => valid_w (List.all_eq_true.1 hva y hy)
  have hln : l.length = n := hr.1
  have hn5 : n ≤ 5000 := by omega
  have hgl := growTo_len l l.length
  have HE0 := hide h0
  have HL := hide hl
  have HW := hide hw
  have HLN := hide hln
  obtain ⟨wl, hwl⟩ : ∃ wl, wl = widthW l := ⟨_, rfl⟩
  obtain ⟨ng, hng⟩ : ∃ ng, ng = (growL l).length := ⟨_, rfl⟩
  rw [← hwl] at h1 hwr ⊢
  rw [← hng] at h2
  have hng5 : ng ≤ 5000 := by rw [hng]; unfold growL; omega
  obtain ⟨hw1, hw2⟩ := hwr
  obtain ⟨hl1, hl2⟩ := hlr
  have HWL := hide hwl
  have HNG := hide hng
  clear hr hlen hl hw h0 hva hfar hl5 hln hwl hng hgl
  go_enter Try.func11, Try.ntmps11
  go_upto_region 2 with (go_at_call 26; refine (check_any A n c l (some ⟨w.heap.size, 0, none⟩) 1 1 [len] (fun _ => True) _ (HR.out.below (below_a _)) hn HLEN.out (check_rd w len) (by omega)).mono ?_; rw [HE0.out]; rintro e w1 ⟨rfl, q⟩; have Q1 := hide (below_self (below_a _) q); clear q)
  obtain ⟨W1, W2, W3, W4, r1, r2, r3, r4, hb4, hbel⟩ := ways_made w1
  have hlk := HL.out W4 w1.heap.size hb4
  have HB4 := hide (below_self Q1.out hbel)
  clear hb4 hbel
  go_upto_region 11 with (first
    | (go_at_call 32
       refine (own_row A n c l (fun _ => True) _ (HR.out.below HB4.out) (by omega) HNS.out).mono ?_
       rintro e w5 ⟨v5, rfl, q1, q2⟩
       obtain ⟨A5, c5, e5, hc5, hr5⟩ := q1.rd
       subst e5
       have HO5 := hide q1
       have HB5 := hide (below_self HB4.out q2)
       have HS5 := hide q2
       have HR5 := hide hr5
       have HC5 := hide hc5
       clear q1 q2 hr5 hc5)
    | (go_at_call 33
       refine (Width_any A5 l.length c5 l (fun _ => True) _ HR5.out (by rw [HLN.out]; omega)).mono ?_
       rw [← HWL.out]
       rintro e w6 ⟨rfl, q⟩
       have HB6 := hide (below_self HB5.out q)
       have HR6 := hide (HR5.out.below q)
       have HO6 := hide (HO5.out.below q)
       clear q)
    | (go_at_call 34
       refine (growing_any A5 l.length c5 l (fun _ => True) _ HR6.out HC5.out (by rw [HLN.out]; omega) HLEN.out).mono ?_
       rintro e w7 ⟨v7, rfl, q1, q2⟩
       obtain ⟨A7, c7, e7, hc7, -, -, -, hr7⟩ := q1.form
       rw [← HNG.out] at e7 hr7
       subst e7
       have HR7 := hide (hr7.weaken (ok' := fun k => w6.heap.size ≤ k) (fun k hk => by rcases hk with hk | hk; exact hk.elim; exact (q1.lt k hk).1))
       have HB7 := hide (below_self HB6.out q2)
       have HO7 := hide (HO6.out.below q2)
       have HW6 : Hid (w6.heap.size ≤ w7.heap.size) := hide q2.size
       clear q1 q2 hr7 hc7))
  have HBW : Hid (w.heap.size ≤ W4.heap.size) := hide HB4.out.size
  have hlp : 0 < l.length := by
    rcases Nat.eq_zero_or_pos l.length with h | h
    · have : l = [] := List.eq_nil_of_length_eq_zero h
      rw [this] at HNG
      have := HNG.out
      simp [growL, growTo] at this
      omega
    · exact h
  rcases HO7.out with ⟨hnil, -⟩ | ⟨g, c9, I, nn, e9, -, hg, hlc, hrow, hI, hch⟩
  · rw [hnil] at hlp; exact absurd hlp (by simp)
  injection e9 with eA _ ec
  subst eA
  subst ec
  have hgl6 : g < w6.heap.size := by
    have := HR6.out.2 hlp
    obtain ⟨b', o', e', -, hlt, -⟩ := this
    cases e'
    exact hlt
  have HROW := hide hrow
  have HI := hide hI
  have HCH := hide hch
  have HG := hide hg
  have HG6 := hide hgl6
  clear hrow hI hch hg hlc hgl6
  have hk : len - wl ≤ 1000000000000 := by omega
  have hd : decide (0 < len - wl) = true := decide_eq_true h1
  go_upto_region 12 with fail
  obtain ⟨lack, hla⟩ : ∃ lack, lack = len - wl := ⟨_, rfl⟩
  rw [← hla] at h1 hk hd ⊢
  have hlack : lack ≤ 6000000000 := by omega
  have HLA := hide hla
  clear hla
  go_quiet (fail)
  have hw7d : Below w7.heap.size w7 (w7.drewN nq) := below_drewN (Below.refl _ _) nq
  have HB8 := hide (below_self HB7.out hw7d)
  have HROW8 := hide (HROW.out.below hw7d)
  have HR8 := hide (HR7.out.below hw7d)
  have HW8 : Hid ((w7.drewN nq).heap.size = w7.heap.size) := hide rfl
  generalize w7.drewN nq = w8 at HB8 HROW8 HR8 HW8 ⊢
  clear hw7d HB7 HROW HR7
  clear hk hd
  obtain ⟨each, hea⟩ : ∃ each, each = lack / (ng : Int) := ⟨_, rfl⟩
  obtain ⟨more, hmo⟩ : ∃ more, more = lack % (ng : Int) := ⟨_, rfl⟩
  have he0 : 0 ≤ each := by rw [hea]; exact Int.ediv_nonneg (by omega) (by omega)
  have he1 : each ≤ 6000000000 := by rw [hea]; exact Int.le_trans (Int.ediv_le_self _ (by omega)) hlack
  have hm0 : 0 ≤ more := by rw [hmo]; exact Int.emod_nonneg _ (by omega)
  have hm1 : more < (ng : Int) := by rw [hmo]; exact Int.emod_lt_of_pos _ (by omega)
  have HEA := hide hea
  have HMO := hide hmo
  have HGW : Hid (w.heap.size ≤ g) := hide (Nat.le_trans HBW.out HG.out)
  go_wp2_with fail
  rw [← hea, ← hmo]
  clear hea hmo
  go_loopw [19, 20, 73] (fun _ _ t73 wr => ∃ k : Nat, t73 = .int .i64 k ∧ k ≤ ng ∧ Hid ((markK W4.heap.size).RowAt 33 wr (fun k => k ≠ g) g c5 (marks (spreadTo l (growL l) each more odd k) I)) ∧ Hid (Near (1000000 + (k : Int) * 7000000000) (spreadTo l (growL l) each more odd k)) ∧ Hid (Below w.heap.size w wr) ∧ Hid (Kind.int.Rd wr (fun k => w6.heap.size ≤ k) A7 ng (growL l))) (fun _ _ t73 _ => ng - (intOf t73).toNat)
  case atStart => exact ⟨0, rfl, Nat.zero_le _, HROW8, hide (show Near (1000000 + ((0 : Nat) : Int) * 7000000000) l by simpa using HNE.out), HB8, HR8⟩
  case round =>
    obtain ⟨k, rfl, hk, HRW, HN, HB, HRD⟩ := hrel
    by_cases hlt : k < ng
    · obtain ⟨i, hi⟩ : ∃ i, (growL l)[k]? = some i := ⟨_, List.getElem?_eq_getElem (by have := HNG.out; omega)⟩
      obtain ⟨j, rfl, hj⟩ := grow_at hi
      have hml := spreadTo_len l (growL l) each more odd k
      obtain ⟨y, hy⟩ : ∃ y, (spreadTo l (growL l) each more odd k)[j]? = some y := ⟨_, List.getElem?_eq_getElem (by omega)⟩
      have hny := HN.out y (List.mem_of_getElem? hy)
      obtain ⟨hny1, hny2⟩ := hny
      have HIM : Hid (I.length = (spreadTo l (growL l) each more odd k).length) := hide (by rw [hml]; exact HI.out)
      obtain ⟨b7, o7, rfl, u7⟩ := rd_int HRD.out hi
      obtain ⟨z1, hrow1⟩ := row_width HRW.out HIM.out hy (y.f1 + each)
      have zf := HRW.out.frozen (j * 7 + 1)
      have HRW1 := hide hrow1
      have hy' : ((spreadTo l (growL l) each more odd k).set j (withW y (y.f1 + each)))[j]? = some (withW y (y.f1 + each)) := by rw [List.getElem?_set_self (by omega)]
      have HY1 := hide hy'
      have z2 : (wr.setCell ⟨g, j * 7 + 1, none⟩ (.int .i64 (y.f1 + each))).cell? ⟨g, j * 7 + 1, none⟩ = some (.int .i64 (y.f1 + each)) := World.cell?_setCell_same' wr _ _ (by rw [z1]; rfl)
      have zf2 := hrow1.frozen (j * 7 + 1)
      have HB1 := hide (Below.setCell (p := ⟨g, j * 7 + 1, none⟩) HB.out HGW.out (.int .i64 (y.f1 + each)))
      have HRD1 := hide (HRD.out.step (fun q hq _ => Below.heap_setCell wr ⟨g, j * 7 + 1, none⟩ (.int .i64 (y.f1 + each)) q (by have := HG6.out; show q ≠ g; omega)))
      have HGJ := hide hi
      have HY := hide hy
      have hjz : (j : Int) < (l.length : Int) := by omega
      have hk5 : k < 5000 := by omega
      clear hi hy hrow1 hml
      cases odd with
      | true =>
        by_cases hc : (k : Int) < more
        · have hcd : decide ((k : Int) < more) = true := decide_eq_true hc
          have hgr : grown each more ng true k y = withW y (y.f1 + each + 1) := by unfold grown withW; rw [show ((true && decide ((k : Int) < more)) || (!true && decide ((ng : Int) - more ≤ (k : Int)))) = true from by simp [hc]]; simp
          have HGR := hide hgr
          clear hgr hy'
          go_wp2_with fail
          have hst := spread_step (odd := true) (more := more) (each := each) HGJ.out HY.out
          rw [← HNG.out, HGR.out] at hst
          have hrow2 := (row_width HRW1.out (by rw [List.length_set]; exact HIM.out) HY1.out (y.f1 + each + 1)).2
          rw [List.set_set] at hrow2
          have HRW2 : Hid ((markK W4.heap.size).RowAt 33 _ (fun k => k ≠ g) g c5 (marks (spreadTo l (growL l) each more true (k + 1)) I)) := hide (by rw [hst]; exact hrow2)
          have HB2 := hide (Below.setCell (p := ⟨g, j * 7 + 1, none⟩) HB1.out HGW.out (.int .i64 (y.f1 + each + 1)))
          have HR2 := hide (HRD1.out.step (fun q hq _ => Below.heap_setCell _ ⟨g, j * 7 + 1, none⟩ (.int .i64 (y.f1 + each + 1)) q (by have := HG6.out; show q ≠ g; omega)))
          have HN2 : Hid (Near (1000000 + ((k + 1 : Nat) : Int) * 7000000000) (spreadTo l (growL l) each more true (k + 1))) := hide (by rw [hst]; exact near_set HN.out (by omega) (by show -1000000 ≤ y.f1 + each + 1 ∧ y.f1 + each + 1 ≤ _; omega))
          clear hst hrow2
          go_roundw
          case rel => exact ⟨k + 1, by go_num, by omega, HRW2, HN2, HB2, HR2⟩
          case measure => simp [intOf]; omega
        · have hcd : decide ((k : Int) < more) = false := decide_eq_false hc
          have hgr : grown each more ng true k y = withW y (y.f1 + each) := by unfold grown withW; rw [show ((true && decide ((k : Int) < more)) || (!true && decide ((ng : Int) - more ≤ (k : Int)))) = false from by simp [hc]]; simp
          have HGR := hide hgr
          clear hgr hy'
          go_wp2_with fail
          have hst := spread_step (odd := true) (more := more) (each := each) HGJ.out HY.out
          rw [← HNG.out, HGR.out] at hst
          have HRW2 : Hid ((markK W4.heap.size).RowAt 33 _ (fun k => k ≠ g) g c5 (marks (spreadTo l (growL l) each more true (k + 1)) I)) := hide (by rw [hst]; exact HRW1.out)
          have HN2 : Hid (Near (1000000 + ((k + 1 : Nat) : Int) * 7000000000) (spreadTo l (growL l) each more true (k + 1))) := hide (by rw [hst]; exact near_set HN.out (by omega) (by show -1000000 ≤ y.f1 + each ∧ y.f1 + each ≤ _; omega))
          clear hst
          go_roundw
          case rel => exact ⟨k + 1, by go_num, by omega, HRW2, HN2, HB1, HRD1⟩
          case measure => simp [intOf]; omega
      | false =>
        by_cases hc : (ng : Int) - more ≤ (k : Int)
        · have hcd : decide ((ng : Int) - more ≤ (k : Int)) = true := decide_eq_true hc
          have hgr : grown each more ng false k y = withW y (y.f1 + each + 1) := by unfold grown withW; rw [show ((false && decide ((k : Int) < more)) || (!false && decide ((ng : Int) - more ≤ (k : Int)))) = true from by simp [hc]]; simp
          have HGR := hide hgr
          clear hgr hy'
          go_wp2_with fail
          have hst := spread_step (odd := false) (more := more) (each := each) HGJ.out HY.out
          rw [← HNG.out, HGR.out] at hst
          have hrow2 := (row_width HRW1.out (by rw [List.length_set]; exact HIM.out) HY1.out (y.f1 + each + 1)).2
          rw [List.set_set] at hrow2
          have HRW2 : Hid ((markK W4.heap.size).RowAt 33 _ (fun k => k ≠ g) g c5 (marks (spreadTo l (growL l) each more false (k + 1)) I)) := hide (by rw [hst]; exact hrow2)
          have HB2 := hide (Below.setCell (p := ⟨g, j * 7 + 1, none⟩) HB1.out HGW.out (.int .i64 (y.f1 + each + 1)))
          have HR2 := hide (HRD1.out.step (fun q hq _ => Below.heap_setCell _ ⟨g, j * 7 + 1, none⟩ (.int .i64 (y.f1 + each + 1)) q (by have := HG6.out; show q ≠ g; omega)))
          have HN2 : Hid (Near (1000000 + ((k + 1 : Nat) : Int) * 7000000000) (spreadTo l (growL l) each more false (k + 1))) := hide (by rw [hst]; exact near_set HN.out (by omega) (by show -1000000 ≤ y.f1 + each + 1 ∧ y.f1 + each + 1 ≤ _; omega))
          clear hst hrow2
          go_roundw
          case rel => exact ⟨k + 1, by go_num, by omega, HRW2, HN2, HB2, HR2⟩
          case measure => simp [intOf]; omega
        · have hcd : decide ((ng : Int) - more ≤ (k : Int)) = false := decide_eq_false hc
          have hgr : grown each more ng false k y = withW y (y.f1 + each) := by unfold grown withW; rw [show ((false && decide ((k : Int) < more)) || (!false && decide ((ng : Int) - more ≤ (k : Int)))) = false from by simp [hc]]; simp
          have HGR := hide hgr
          clear hgr hy'
          go_wp2_with fail
          have hst := spread_step (odd := false) (more := more) (each := each) HGJ.out HY.out
          rw [← HNG.out, HGR.out] at hst
          have HRW2 : Hid ((markK W4.heap.size).RowAt 33 _ (fun k => k ≠ g) g c5 (marks (spreadTo l (growL l) each more false (k + 1)) I)) := hide (by rw [hst]; exact HRW1.out)
          have HN2 : Hid (Near (1000000 + ((k + 1 : Nat) : Int) * 7000000000) (spreadTo l (growL l) each more false (k + 1))) := hide (by rw [hst]; exact near_set HN.out (by omega) (by show -1000000 ≤ y.f1 + each ∧ y.f1 + each ≤ _; omega))
          clear hst
          go_roundw
          case rel => exact ⟨k + 1, by go_num, by omega, HRW2, HN2, HB1, HRD1⟩
          case measure => simp [intOf]; omega
    · have hkn : k = ng := by omega
      subst hkn
      have hfin : Kd.S k33 33 wr w.heap.size (fun _ => True) (.slice (some ⟨g, 0, none⟩) l.length c5) (spread l lack odd) := by
        have hsp : spread l lack odd = spreadTo l (growL l) each more odd k := by unfold spread; rw [← HNG.out, HEA.out, HMO.out]
        have h9 := own_S HRW.out (by rw [spreadTo_len]; exact HI.out) HCH.out HG.out
        rw [spreadTo_len] at h9
        rw [hsp]
        exact YteadghhmoggjnaaW.PrintWords.Kd.S_lower h9 HBW.out
      have HF := hide hfin
      have hkk : lack ≤ 1000000000000 := by omega
      clear hfin
      go_wp2_with (go_at_fn gf; refine (HW.out lack _ hkk).mono ?_; rintro e w9 ⟨rfl, rfl⟩)
      go_ret3
      rw [← HLA.out]
      exact ⟨_, rfl, HF.out, HB.out⟩
theorem looks_l : Looks 108 (.func (.func 27) #[] #[]) true := fun W g h => look_l h
theorem looks_b : Looks 98 (.func (.func 28) #[] #[]) true := fun W g h => look_b h
theorem looks_r : Looks 114 (.func (.func 29) #[] #[]) true := fun W g h => look_r h
theorem looks_c : Looks 99 (.func (.func 30) #[] #[]) true := fun W g h => look_c h
theorem way_l : Way 108 27 := fun k W _ => Adjust1_any k W
theorem way_b : Way 98 28 := fun k W _ => Adjust2_any k W
theorem way_r : Way 114 29 := fun k W _ => Adjust3_any k W
theorem way_c : Way 99 30 := fun k W h => Adjust4_any k W h
theorem Adjust_any (A : Option Addr) (n c : Nat) (l : List S33) (len mode : Int) (odd : Bool) (w : World) (hr : boxK.Rd w (fun _ => True) A n l) (hn : n ≤ 9223372036854775807) (hlen : ∀ x ∈ l, x.f6.length ≤ 9223372036854775807) :
  Calls Try.prog 11 #[.slice A n c, .int .i64 len, .int .u8 mode, .bool odd] w fun e w' => ∃ v, e = .returned (.tuple #[v, .int .i64 (adjL l len mode odd).2.1, .int .i64 (adjL l len mode odd).2.2]) ∧ Kd.S k33 33 w' w.heap.size (fun _ => True) v (adjL l len mode odd).1 ∧ Below w.heap.size w w' := by
 have key : ∀ (gf : Nat), (∀ args w, (callFunc gf args).run Try.prog w = .ok (.enter gf args) w) → Looks mode (.func (.func gf) #[] #[]) true → Way mode gf → (mode = 108 ∨ mode = 98 ∨ mode = 114 ∨ mode = 99) →
   Calls Try.prog 11 #[.slice A n c, .int .i64 len, .int .u8 mode, .bool odd] w fun e w' => ∃ v, e = .returned (.tuple #[v, .int .i64 (adjL l len mode odd).2.1, .int .i64 (adjL l len mode odd).2.2]) ∧ Kd.S k33 33 w' w.heap.size (fun _ => True) v (adjL l len mode odd).1 ∧ Below w.heap.size w w' := by
  intro gf eg hl hw hm
  by_cases h1 : checkI l [len] = 1
  ·refine (Adjust_err1 A n c l len mode odd w hr hn hlen _ true hl (.inl h1)).mono fun e w' ⟨he, hb⟩ => ⟨.slice none 0 0, ?_, ?_, hb⟩
   ·rw [he]; unfold adjL; rw [if_pos (.inl h1)]
   ·unfold adjL; rw [if_pos (.inl h1)]; exact YteadghhmoggjnaaW.PrintWords.Kd.S_nil _ _ _ _ _
  ·have hn1 : ¬ (checkI l [len] = 1 ∨ ¬ (mode = 108 ∨ mode = 98 ∨ mode = 114 ∨ mode = 99)) := by rintro (h | h); exact h1 h; exact h hm
   by_cases h0 : checkI l [len] = 0
   ·by_cases hg : mode = 98 ∧ 0 < len - widthW l ∧ 0 < (growL l).length
    ·have hA : adjL l len mode odd = (spread l (len - widthW l) odd, wayOf mode (len - widthW l), 0) := by unfold adjL; rw [if_neg hn1, if_neg (by rw [h0]; simp), if_pos hg]
     obtain ⟨hm98, hg1, hg2⟩ := hg
     subst hm98
     rw [hA]
     exact Adjust_grow A n c l len odd w hr hn hlen gf eg hl hw h0 hg1 hg2
    ·have hA : adjL l len mode odd = (l, wayOf mode (len - widthW l), 0) := by unfold adjL; rw [if_neg hn1, if_neg (by rw [h0]; simp), if_neg hg]
     rw [hA]
     exact Adjust_plain A n c l len mode odd w hr hn hlen gf eg hl hw h0 (by
      by_cases e1 : mode = 98
      ·by_cases e2 : 0 < len - widthW l
       ·exact .inr (.inr (by
         rcases Nat.eq_zero_or_pos (growL l).length with h | h
         ·exact h
         ·exact absurd ⟨e1, e2, h⟩ hg))
       ·exact .inr (.inl e2)
      ·exact .inl e1)
   ·refine (Adjust_err2 A n c l len mode odd w hr hn hlen _ hl h1 h0).mono fun e w' ⟨he, hb⟩ => ⟨.slice none 0 0, ?_, ?_, hb⟩
    ·rw [he]; unfold adjL; rw [if_neg hn1, if_pos h0]
    ·unfold adjL; rw [if_neg hn1, if_pos h0]; exact YteadghhmoggjnaaW.PrintWords.Kd.S_nil _ _ _ _ _
 by_cases m1 : mode = 108
 ·subst m1; exact key _ (fun _ _ => rfl) looks_l way_l (by omega)
 by_cases m2 : mode = 98
 ·subst m2; exact key _ (fun _ _ => rfl) looks_b way_b (by omega)
 by_cases m3 : mode = 114
 ·subst m3; exact key _ (fun _ _ => rfl) looks_r way_r (by omega)
 by_cases m4 : mode = 99
 ·subst m4; exact key _ (fun _ _ => rfl) looks_c way_c (by omega)
 refine (Adjust_err1 A n c l len mode odd w hr hn hlen .nilFunc false (fun W g h => look_no h mode m1 m2 m3 m4) (.inr rfl)).mono fun e w' ⟨he, hb⟩ => ⟨.slice none 0 0, ?_, ?_, hb⟩
 ·rw [he]; unfold adjL; rw [if_pos (.inr (by omega))]
 ·unfold adjL; rw [if_pos (.inr (by omega))]; exact YteadghhmoggjnaaW.PrintWords.Kd.S_nil _ _ _ _ _
end Go.Proofs.YteadghhmoggjnaaB
end
section
namespace Go.Proofs.YteadghhmoggjnaaB
open Go.RowKit
open Yteadghhmoggjnaa.Q (S33 k33 z33 k33_open k33_mk k33_mkM k33_openF)
open YteadghhmoggjnaaW.PrintWords (Kd ReadsRow)
set_option maxHeartbeats 1600000
set_option maxRecDepth 1000000
def SlRd (w : World) (ok : Nat → Prop) (v : Value) (l : List S33) : Prop := ∃ A c, v = .slice A l.length c ∧ l.length ≤ c ∧ boxK.Rd w ok A l.length l
def restL (l : List S33) : List S33 := l.dropWhile blankB
theorem restL_yes {l : List S33} {x : S33} (h : l[0]? = some x) (hx : blankB x = true) : restL l = restL (l.drop 1) := by
 match l, h with
 | y :: r, h =>
  have : y = x := by simpa using h
  subst this
  show List.dropWhile blankB (y :: r) = _
  rw [List.dropWhile_cons_of_pos hx]
  rfl
theorem restL_no {l : List S33} {x : S33} (h : l[0]? = some x) (hx : blankB x = false) : restL l = l := by
 match l, h with
 | y :: r, h =>
  have : y = x := by simpa using h
  subst this
  show List.dropWhile blankB (y :: r) = _
  rw [List.dropWhile_cons_of_neg (by rw [hx]; simp)]
theorem slice_one (W : World) (A : Option Addr) (n c : Nat) (h1 : 1 ≤ n) : (Instr.slice 23 (.slice A n c) (some (.int .i64 1)) none none).run Try.prog W = .ok (.slice (cutA A c 1) (n - 1) (c - 1)) W := slice_low W A n c 1 h1
theorem rest_any (A : Option Addr) (n c : Nat) (l : List S33) (ok : Nat → Prop) (w : World) (hr : boxK.Rd w ok A n l) (hc : n ≤ c) (hn : n ≤ 9223372036854775807) (hlen : ∀ x ∈ l, x.f6.length ≤ 9223372036854775807) :
  Calls Try.prog 40 #[.slice A n c] w fun e w' => ∃ v, e = .returned v ∧ SlRd w' ok v (restL l) ∧ Below w.heap.size w w' := by
 obtain ⟨l0, hl0⟩ : ∃ l0, l0 = restL l := ⟨_, rfl⟩
 rw [← hl0]
 have hln : l.length = n := hr.1
 subst hln
 have HS : Hid (SlRd w ok (.slice A l.length c) l) := hide ⟨A, c, rfl, hc, hr⟩
 have HLEN := hide hlen
 have HL0 := hide hl0
 clear hr hlen hl0 hc
 go_enter Try.func40, Try.ntmps40
 go_wp2_with fail
 go_loopw [0] (fun t0 wr => ∃ (l1 : List S33) (v1 : Value), v1 = t0 ∧ Hid (l0 = restL l1) ∧ Hid (SlRd wr ok v1 l1) ∧ Hid (Below w.heap.size w wr) ∧ l1.length ≤ l.length ∧ Hid (∀ x ∈ l1, x.f6.length ≤ 9223372036854775807)) (fun t0 _ => match t0 with | .slice _ n _ => n | _ => 0)
 case atStart => exact ⟨l, _, rfl, HL0, HS, hide (Below.refl _ _), Nat.le_refl _, HLEN⟩
 case round =>
  obtain ⟨l1, v1, rfl, HL1, HS1, HB, hll, HN1⟩ := hrel
  obtain ⟨A1, c1, rfl, hc1, hr1⟩ := HS1.out
  have HR1 := hide hr1
  clear hr1
  rcases Nat.eq_zero_or_pos l1.length with h0 | h0
  ·have hl : l1 = [] := List.eq_nil_of_length_eq_zero h0
   subst hl
   clear h0
   have HF := hide HL1.out
   go_wp2_with fail
   go_ret
   exact ⟨_, rfl, by rw [HL1.out]; exact HS1.out, HB.out⟩
  ·obtain ⟨x, hx⟩ : ∃ x, l1[0]? = some x := ⟨_, List.getElem?_eq_getElem h0⟩
   obtain ⟨b, off, A5, c5, rfl, hr5, -, -, z0, z1, z2, z3, z4, z5, z6⟩ := box_cells HR1.out hx
   rw [Nat.zero_mul, Nat.add_zero] at z0 z1 z2 z3 z4 z5 z6
   have HR5 := hide (hr5.weaken (ok' := fun _ => True) (fun _ _ => trivial))
   have HL5 := hide (HN1.out x (List.mem_of_getElem? hx))
   have HX := hide hx
   obtain ⟨n1, hn1⟩ : ∃ n1, n1 = l1.length := ⟨_, rfl⟩
   have HN := hide hn1
   have hs1 := fun W => slice_one W (some ⟨b, off, none⟩) n1 c1 (by omega)
   rw [← hn1] at h0 hll hc1 ⊢
   have hz : decide (0 < n1) = true := decide_eq_true h0
   have hz2 : decide (0 < (n1 : Int)) = true := decide_eq_true (by omega)
   clear hx hr5 hn1
   cases hb : blankB x with
   | true =>
    have HBX := hide hb
    clear hb
    go_wp2_with (go_at_call 66; refine (blank_tests x A5 c5 _ HR5.out HL5.out).mono ?_; rw [HBX.out]; rintro e w2 ⟨rfl, q⟩; have Q := hide q; clear q)
    go_roundw
    case rel => exact ⟨l1.drop 1, _, rfl, hide (by rw [HL1.out, restL_yes HX.out HBX.out]), hide ⟨cutA (some ⟨b, off, none⟩) c1 1, c1 - 1, by rw [List.length_drop, ← HN.out], by rw [List.length_drop, ← HN.out]; omega, by rw [List.length_drop]; exact rd_low (HR1.out.below Q.out) (by have := HN.out; omega) (by have := HN.out; omega)⟩, hide (below_self HB.out Q.out), by rw [List.length_drop, ← HN.out]; omega, hide (lens_drop HN1.out 1)⟩
    case measure => show n1 - 1 < n1; omega
   | false =>
    have HBX := hide hb
    clear hb
    go_wp2_with (go_at_call 66; refine (blank_tests x A5 c5 _ HR5.out HL5.out).mono ?_; rw [HBX.out]; rintro e w2 ⟨rfl, q⟩; have Q := hide q; clear q)
    go_ret
    refine ⟨_, rfl, ⟨some ⟨b, off, none⟩, c1, ?_, ?_, ?_⟩, below_self HB.out Q.out⟩
    ·rw [HL1.out, restL_no HX.out HBX.out, ← HN.out]; rfl
    ·rw [HL1.out, restL_no HX.out HBX.out, ← HN.out]; exact hc1
    ·rw [HL1.out, restL_no HX.out HBX.out]; exact HR1.out.below Q.out
theorem SlRd.below {w w' : World} {ok : Nat → Prop} {v : Value} {l : List S33} (h : SlRd w ok v l) (hb : Below w.heap.size w w') : SlRd w' ok v l := by
 obtain ⟨A, c, e, hc, hr⟩ := h
 exact ⟨A, c, e, hc, hr.below hb⟩
theorem SlRd.weaken {w : World} {ok ok' : Nat → Prop} {v : Value} {l : List S33} (h : SlRd w ok v l) (hok : ∀ k, ok k → ok' k) : SlRd w ok' v l := by
 obtain ⟨A, c, e, hc, hr⟩ := h
 exact ⟨A, c, e, hc, hr.weaken hok⟩
def hyph (l : List S33) (h : S33) : List S33 := if h.f0 = 5 then l else l ++ [h]
theorem own_slrd {e : TypeId} {w : World} {ok ok' : Nat → Prop} {base : Nat} {v : Value} {l : List S33} (h : boxK.Own e w ok base v l) (hok : ∀ k, ok k → ok' k) (hb : ∀ k, base ≤ k → ok' k) : SlRd w ok' v l := by
 have hlt := h.lt
 obtain ⟨A, c, e, h1, -, -, -, h3⟩ := h.form
 refine ⟨A, c, e, h1, h3.weaken (fun k hk => ?_)⟩
 rcases hk with hk | hk
 ·exact hok k hk
 ·exact hb k (hlt k hk).1
theorem one_rd {W : World} {E : Nat} {h : S33} {A2 : Option Addr} {c2 : Nat} {ok : Nat → Prop} (hb : W.heap[E]? = some (.cells (S33cells h A2 c2).toArray 33 (0, 0))) (hE : ok E) (hc : h.f6.length ≤ c2) (hr : Kind.int.Rd W ok A2 h.f6.length h.f6) : boxK.Rd W ok (some ⟨E, 0, none⟩) 1 [h] := by
 refine ⟨rfl, fun _ => ⟨E, 0, rfl, hE, blk_lt hb, fun i x hx => ?_⟩⟩
 match i, hx with
 | 0, hx =>
  have : h = x := by simpa using hx
  subst this
  refine ⟨_, ⟨A2, c2, rfl, hc, hr⟩, fun j u hu => ?_⟩
  have e : 0 + 0 * boxK.sz + j = j := by omega
  rw [e, blk_cell hb]
  simpa using hu
 | i + 1, hx => simp at hx
theorem step_append_kind {α : Type} {ok : Nat → Prop} {e : TypeId} {base : Nat} {P : Program} {ops : Array Oper} {o : Oper} {a : Act} {K : Act → World → Prop} {Q : Exit → Act → World → Prop} {E : Prop} (w : World) (d : Kind α) (hg : o.guard = none) (s x : Operand) (t : TypeId) (ho : o.op = .call { callee := .builtin .append, args := #[s, x], argTypes := #[t, t] })
  (z : Value) (bytes : Nat) (ht : P.underlying t = some (.slice e)) (hinfo : (P.info? e).map (fun i => (i.zero, i.size, i.bytes)) = some (some z, d.sz, bytes))
  (hzs : z.cells.size = d.sz) (hs0 : 0 < d.sz) (hb0 : 0 < bytes) (v : Value) (l1 : List α) (hs : a.eval s = v) (hown : d.Own e w ok base v l1) (A : Option Addr) (m c : Nat) (l2 : List α) (hx : a.eval x = .slice A m c)
  (hR : d.Rd w ok A m l2) (hok : ∀ k, ok k → v.ownBlock ≠ some k) (hbytes : (l1.length + m) * bytes ≤ 140737488355328) (hbase : base ≤ w.heap.size)
  (h : ∀ v' w', d.Own e w' ok base v' (l1 ++ l2) → w.grownBy w' v.ownBlock → K (a.put o.dst v') w') : if Region.wanted o (yielded ops a.tmps) = true then Oper.wp P o a w K Q else E := by
 have hw : Region.wanted o (yielded ops a.tmps) = true := by simp [Region.wanted, hg]
 rw [if_pos hw]
 obtain ⟨news, hr, hc⟩ := hR.reps
 refine wp_append_kind w d s x t ho e z bytes ht hinfo hzs hs0 hb0 v l1 hs hown A m c l2 news hx hr hR.1 ?_ hc hok hbytes hbase fun v' w' h2 h3 h4 => h v' w' h2 h3
 intro hA
 rcases Nat.eq_zero_or_pos m with h0 | h0
 ·exact h0
 ·obtain ⟨b, off, e1, _⟩ := hR.2 h0
  rw [hA] at e1
  cases e1
theorem hyphened_any (A : Option Addr) (n c : Nat) (l : List S33) (ok : Nat → Prop) (w : World) (hr : boxK.Rd w ok A n l) (hn : n ≤ 1000000000000) (h : S33) (A2 : Option Addr) (c2 : Nat) (hh : Kind.int.Rd w ok A2 h.f6.length h.f6) (hc2 : h.f6.length ≤ c2) :
    Calls Try.prog 65 #[.slice A n c, .agg (S33cells h A2 c2).toArray] w fun e w' => ∃ v, e = .returned v ∧ SlRd w' (fun k => (ok k ∧ k < w.heap.size) ∨ w.heap.size ≤ k) v (hyph l h) ∧ Below w.heap.size w w' := by
  have HHY : Hid (hyph l h = if h.f0 = 5 then l else l ++ [h]) := hide rfl
  have HB0 := hide (BoxAt.new w h A2 c2)
  have HR := hide hr
  have HH := hide hh
  have hln : l.length = n := hr.1
  have HLN := hide hln
  show Calls Try.prog 65 #[.slice A n c, .agg #[.int .i64 h.f0, .int .i64 h.f1, .int .i64 h.f2, .int .i64 h.f3, .string h.f4, .string h.f5, .slice A2 h.f6.length c2]] w _
  clear hr hh hln
  go_enter Try.func65, Try.ntmps65
  go_upto_region 1 with fail
  obtain ⟨w1, hw1⟩ : ∃ w1, w1 = w.alloc (.cells #[.int .i64 h.f0, .int .i64 h.f1, .int .i64 h.f2, .int .i64 h.f3, .string h.f4, .string h.f5, .slice A2 h.f6.length c2] 33) := ⟨_, rfl⟩
  have HB1 : Hid (BoxAt w w1 h A2 c2) := hide (by rw [hw1]; exact HB0.out)
  have hsz1 : w1.heap.size = w.heap.size + 1 := by rw [hw1]; simp
  rw [← hw1]
  clear hw1 HB0
  obtain ⟨x0, x1, x2, x3, x4, x5, x6⟩ := HB1.out.cells
  obtain ⟨gb, hgb⟩ : ∃ gb, gb = w.heap.size := ⟨_, rfl⟩
  have HGB := hide hgb
  have HSZ1 := hide hsz1
  rw [← hgb] at x0 x1 x2 x3 x4 x5 x6 ⊢
  clear hgb hsz1
  have HRB := hide (HR.out.bound.below HB1.out.bel)
  by_cases h5 : h.f0 = 5
  · have HH5 : Hid (hyph l h = l) := hide (by rw [HHY.out, if_pos h5])
    have h5b : (h.f0 == 5) = true := by simp [h5]
    clear h5
    go_wp2_with (go_at_call 58; refine (Clone_box A n c l (fun k => ok k ∧ k < w.heap.size) _ HRB.out hn).mono ?_; rintro e w2 ⟨v2, rfl, q1, q2⟩; have Q1 := hide q1; have Q2 := hide (below_self HB1.out.bel q2); clear q1 q2)
    go_ret
    refine ⟨_, rfl, ?_, Q2.out⟩
    rw [HH5.out]
    exact own_slrd Q1.out (fun k hk => .inl hk.1) (fun k hk => .inr (by have := HSZ1.out; omega))
  · have HH5 : Hid (hyph l h = l ++ [h]) := hide (by rw [HHY.out, if_neg h5])
    have h5b : (h.f0 == 5) = false := beq_eq_false_iff_ne.2 h5
    clear h5
    go_upto_region 3 with fail
    go_region_law (first
      | (go_simp
         go_at_call 58
         have tokA : w1.drew.heap.size = w1.heap.size := rfl
         refine (Clone_box A n c l (fun k => ok k ∧ k < w.heap.size) w1.drew (HRB.out.below (Below.refl w1.heap.size w1).drew) hn).mono ?_
         rintro e w4 ⟨v4, rfl, q1, q2⟩
         have hb4 := HB1.out.step (below_self (Below.refl w1.heap.size w1).drew q2)
         obtain ⟨y0, y1, y2, y3, y4, y5, y6⟩ := hb4.cells
         rw [← HGB.out] at y0 y1 y2 y3 y4 y5 y6
         have HO4 : Hid (boxK.Own 33 w4 (fun k => ok k ∧ k < w.heap.size) w1.heap.size v4 l) := hide (q1.weaken (fun k hk => hk.1))
         have HB4 := hide hb4
         have HS4 : Hid (w1.heap.size ≤ w4.heap.size) := hide q2.size
         clear q1 q2 hb4 tokA)
      | (go_simp
         go_at_call 58
         refine (Clone_box A n c l (fun k => ok k ∧ k < w.heap.size) _ (HRB.out.below ((below_a (.cells (S33cells h A2 c2).toArray 33)).drew)) hn).mono ?_
         rintro e w5 ⟨v5, rfl, q1, q2⟩
         have HO5 : Hid (boxK.Own 33 w5 (fun k => ok k ∧ k < w.heap.size) (w1.heap.size + 1) v5 l) := hide ((q1.weaken (fun k hk => hk.1)).lower (by simp))
         have HBK5 : Hid (w5.heap[w1.heap.size]? = some (.cells (S33cells h A2 c2).toArray 33 (0, 0))) := hide (blk_below (w := (w1.alloc (.cells (S33cells h A2 c2).toArray 33)).drew) (blk_new w1 _) q2 (by simp))
         have HB5 : Hid (Below w1.heap.size w1 w5) := hide (below_self ((below_a _).drew) q2)
         clear q1 q2)
      | (refine step_append_kind (ok := fun k => (ok k ∧ k < w.heap.size) ∨ k = w4.heap.size) (e := 33) (base := w1.heap.size) (w4.alloc (.cells (S33cells h A2 c2).toArray 33)) boxK rfl _ _ 23 rfl _ 88 Try.underlying23 info_box rfl (by decide) (by decide) v4 l rfl ((HO4.out.below (below_a _)).weaken (fun _ hk => .inl hk)) (some ⟨w4.heap.size, 0, none⟩) 1 1 [h] rfl
           (one_rd (blk_new w4 _) (.inr rfl) hc2 (((HH.out.bound.below HB4.out.bel).below (below_a _)).weaken (fun _ hk => .inl hk))) (fun k hk e => by have := HO4.out.lt k e; have := HSZ1.out; rcases hk with hk | hk; exact absurd hk.2 (by omega); omega) (by rw [HLN.out]; omega) (by have := HS4.out; simp; omega) ?_
         intro v6 w6 q1 q2
         have HO6 := hide q1
         have HB6 : Hid (Below w.heap.size w w6) := hide ((HB4.out.bel.alloc HB4.out.bel.size _).grown q2 (Nat.le_trans HB4.out.bel.size (by simp)) (fun k hk => by have := (HO4.out.lt k hk).1; have := HSZ1.out; omega))
         clear q1 q2)
      | (refine step_append_kind (ok := fun k => (ok k ∧ k < w.heap.size) ∨ k = w1.heap.size) (e := 33) (base := w1.heap.size + 1) w5 boxK rfl _ _ 23 rfl _ 88 Try.underlying23 info_box rfl (by decide) (by decide) v5 l rfl (HO5.out.weaken (fun _ hk => .inl hk)) (some ⟨w1.heap.size, 0, none⟩) 1 1 [h] rfl
           (one_rd HBK5.out (.inr rfl) hc2 (((HH.out.bound.below HB1.out.bel).below HB5.out).weaken (fun _ hk => .inl hk))) (fun k hk e => by have := HO5.out.lt k e; have := HSZ1.out; rcases hk with hk | hk; exact absurd hk.2 (by omega); omega) (by rw [HLN.out]; omega) (by have := blk_lt HBK5.out; omega) ?_
         intro v6 w6 q1 q2
         have HO6 := hide q1
         have HB6 : Hid (Below w.heap.size w w6) := hide ((below_self HB1.out.bel HB5.out).grown q2 (below_self HB1.out.bel HB5.out).size (fun k hk => by have := (HO5.out.lt k hk).1; have := HSZ1.out; omega))
         clear q1 q2))
    all_goals go_wp2_with fail
    all_goals go_ret
    all_goals refine ⟨_, rfl, ?_, HB6.out⟩
    all_goals rw [HH5.out]
    all_goals exact own_slrd HO6.out (fun k hk => by have := HSZ1.out; rcases hk with hk | hk; exact .inl hk; exact .inr (by first | omega | (have := HS4.out; omega))) (fun k hk => .inr (by have := HSZ1.out; omega))
end Go.Proofs.YteadghhmoggjnaaB
end
section
namespace Go.Proofs.YteadghhmoggjnaaB
open Go.RowKit Go.Shelf
open Yteadghhmoggjnaa.Q (S33 k33 z33 k33_open k33_mk k33_mkM k33_openF)
open YteadghhmoggjnaaW.PrintWords (Kd ReadsRow)
attribute [local go_sem] Oper.semAt_some
set_option maxHeartbeats 2000000
set_option maxRecDepth 1000000
def bkAt (zs : List Int) (k : Nat) : Nat × Int := (zs.length - 1 - k, zs[zs.length - 1 - k]?.getD 0)
theorem Backward1_in (F : Fence) (n : Nat) (h7 : F.fn 78) (hro : F.round = none) (hn : 1 ≤ n) (l Bs n₀ b off len cap : Nat) (zs : List Int) (hzl : zs.length = len) (hreach : len ≤ 1000000000000) (hb : b < n₀) (hBn : Bs < n₀) (J Jx : List Nat → World → Prop)
  (hY : ∀ pre x W, J pre W → pre.length < len → YieldAt F (n - 1) Try.prog l #[.int .i64 ((bkAt zs x).1 : Int), .int .i64 (bkAt zs x).2] W fun e W' =>
   (e = .returned (.bool true) ∧ J (pre ++ [x]) W' ∧ Below n₀ W W') ∨ (e = .returned (.bool false) ∧ Jx (pre ++ [x]) W'))
  (W : World) (hBs : W.cell? ⟨Bs, 0, none⟩ = some (.slice (some ⟨b, off, none⟩) len cap)) (hc : ∀ j, j < len → W.cell? ⟨b, off + j, none⟩ = some (.int .i64 (zs[j]?.getD 0))) (h0 : J [] W) :
  CallsIn F n Try.prog 78 #[.func (.yield l) #[] #[], .pointer (some ⟨Bs, 0, none⟩)] W fun e W' => (∃ v, e = .returned v) ∧
   ((∃ ys, ys = List.range len ∧ J ys W') ∨ (∃ pre, (∃ k, k ≤ len ∧ pre = List.range k) ∧ Jx pre W')) := by
 refine callsIn_of_wp Try.func78 rfl h7 ?_ hro
 simp only [Try.ntmps78, List.size_toArray, List.length_cons, List.length_nil, Nat.reduceAdd, Nat.reduceSub, Array.replicate_succ, Array.replicate_zero, List.push_toArray, List.append_toArray, List.nil_append, List.cons_append]
 gi_wp2
 gi_loopw [3] (fun i wr => ∃ k : Nat, k ≤ len ∧ i = .int .i64 ((len : Int) - 1 - k) ∧ J (List.range k) wr ∧ Below n₀ W wr)
  (fun i _ => (intOf i + 1).toNat)
 case atStart => exact ⟨0, Nat.zero_le _, by simp, h0, Below.refl _ _⟩
 case round =>
  obtain ⟨k, hk, rfl, hJs, hnx⟩ := hrel
  have hBs' : wr.cell? ⟨Bs, 0, none⟩ = some (.slice (some ⟨b, off, none⟩) len cap) := (hnx.cell (p := ⟨Bs, 0, none⟩) hBn).trans hBs
  by_cases hlt : k < len
  ·obtain ⟨j, hj⟩ : ∃ j, j = len - 1 - k := ⟨_, rfl⟩
   have hji : (len : Int) - 1 - k = (j : Int) := by omega
   have hcx : wr.cell? ⟨b, off + j, none⟩ = some (.int .i64 (zs[j]?.getD 0)) := (hnx.cell (p := ⟨b, off + j, none⟩) hb).trans (hc j (by omega))
   have hbk : bkAt zs k = (j, zs[j]?.getD 0) := by unfold bkAt; rw [hzl, ← hj]
   obtain ⟨z, hz⟩ : ∃ z, z = zs[j]?.getD 0 := ⟨_, rfl⟩
   rw [← hz] at hcx hbk
   obtain ⟨fn, tmps, assign, body, hy, hR⟩ := hY _ k wr hJs (by rw [List.length_range]; exact hlt)
   rw [hbk] at hy
   dsimp only at hy
   rw [hji]
   have hjl : j < len := by omega
   have HBK := hide hbk
   have HJI := hide hji
   clear hbk hji hj hz
   gi_wp2
   refine hR.mono ?_
   rintro e W3 (⟨rfl, hJ3, hk3⟩ | ⟨rfl, hJx3⟩)
   ·gi_wp2
    go_roundw
    case rel => exact ⟨k + 1, by omega, by have := HJI.out; first | (congr 1; omega) | (simp; omega), by rw [List.range_succ]; exact hJ3, hnx.trans hk3⟩
    case measure => first | (simp [intOf]; done) | (simp [intOf]; omega)
   ·gi_wp2
    refine bodyPost_ret (results_none rfl _ _ _) rfl ?_
    exact ⟨⟨_, rfl⟩, .inr ⟨_, ⟨k + 1, by omega, by rw [List.range_succ]⟩, hJx3⟩⟩
  ·obtain rfl : k = len := by omega
   have hz : (k : Int) - 1 - k = -1 := by omega
   rw [hz]
   clear hz
   gi_wp2
   go_end0
   exact ⟨⟨_, rfl⟩, .inl ⟨_, rfl, hJs⟩⟩
end Go.Proofs.YteadghhmoggjnaaB
end
end
section
section
namespace Go.Proofs.YteadghhmoggjnaaB
open Go.RowKit Go.Shelf
open Yteadghhmoggjnaa.Q (S33 k33 z33 k33_open k33_mk k33_mkM k33_openF)
open YteadghhmoggjnaaW.PrintWords (Kd ReadsRow)
attribute [local go_sem] Oper.semAt_some
set_option maxHeartbeats 2000000
set_option maxRecDepth 1000000
theorem Backward1_nil (F : Fence) (n : Nat) (h7 : F.fn 78) (hro : F.round = none) (l Bs : Nat) (J : List Nat → World → Prop) (W : World) (A : Option Addr) (c : Nat) (hBs : W.cell? ⟨Bs, 0, none⟩ = some (.slice A 0 c)) (h0 : J [] W) :
  CallsIn F n Try.prog 78 #[.func (.yield l) #[] #[], .pointer (some ⟨Bs, 0, none⟩)] W fun e W' => (∃ v, e = .returned v) ∧ J [] W' := by
 refine callsIn_of_wp Try.func78 rfl h7 ?_ hro
 simp only [Try.ntmps78, List.size_toArray, List.length_cons, List.length_nil, Nat.reduceAdd, Nat.reduceSub, Array.replicate_succ, Array.replicate_zero, List.push_toArray, List.append_toArray, List.nil_append, List.cons_append]
 gi_wp2
 gi_loopw [3] (fun i wr => i = .int .i64 (-1) ∧ J [] wr) (fun _ _ => 0)
 case atStart => exact ⟨rfl, h0⟩
 case round =>
  obtain ⟨rfl, hJs⟩ := hrel
  gi_wp2
  go_end0
  exact ⟨⟨_, rfl⟩, hJs⟩
theorem Backward_any (A : Option Addr) (n c : Nat) (w : World) : Calls Try.prog 64 #[.slice A n c] w fun e w' => e = .returned (.func (.func 78) #[] #[.pointer (some ⟨w.heap.size, 0, none⟩)]) ∧ w' = w.alloc (.cells #[.slice A n c] 22) := by
 go_enter Try.func64, Try.ntmps64
 go_wp2_with fail
 go_ret
 exact ⟨rfl, rfl⟩
theorem Backward_stops (F : Fence) (n : Nat) (h7 : F.fn 78) (hro : F.round = none) (hn : 1 ≤ n) (Bs n₀ : Nat) (A : Option Addr) (c : Nat) (zs : List Int) (hreach : zs.length ≤ 1000000000000) (w : World) (hBs : Bs < w.heap.size) (hBn : Bs < n₀) (hn₀ : n₀ ≤ w.heap.size)
  (hc : w.cell? ⟨Bs, 0, none⟩ = some (.slice A zs.length c)) (hI : Kind.int.Rd w (fun k => k < n₀) A zs.length zs) :
  SeqStopsK F n Try.prog 78 #[.pointer (some ⟨Bs, 0, none⟩)] (fun x : Nat => #[Value.int .i64 ((bkAt zs x).1 : Int), Value.int .i64 (bkAt zs x).2]) (Below n₀) (fun ys => ys = List.range zs.length) (fun pre => ∃ k, k ≤ zs.length ∧ pre = List.range k) zs.length w := fun l J Jx W hW _ _ hY h0 => by
 have hc' := (hW.cell (p := ⟨Bs, 0, none⟩) hBs).trans hc
 rcases Nat.eq_zero_or_pos zs.length with h | h
 ·have hz : zs = [] := List.eq_nil_of_length_eq_zero h
  subst hz
  exact (Backward1_nil F n h7 hro l Bs J W A c hc' h0).mono fun e W' ⟨he, hj⟩ => ⟨he, .inl ⟨_, rfl, hj⟩⟩
 ·obtain ⟨b, off, rfl, hb, hlt, hcell⟩ := hI.2 h
  refine Backward1_in F n h7 hro hn l Bs n₀ b off zs.length c zs rfl hreach hb hBn J Jx hY W hc' (fun j hj => ?_) h0
  obtain ⟨cs, hk, hcs⟩ := hcell j zs[j] (List.getElem?_eq_getElem hj)
  have hk' : cs = [Value.int .i64 zs[j]] := hk
  subst hk'
  have h2 := hcs 0 _ rfl
  have e : off + j * Kind.int.sz + 0 = off + j := by show off + j * 1 + 0 = _; omega
  rw [e] at h2
  have h3 := (hW.cell (p := ⟨b, off + j, none⟩) hlt).trans h2
  rw [h3, List.getElem?_eq_getElem hj]
  rfl
section
variable (row : List S33) (len : Int) (h : S33)
def gapA (i : Nat) : Nat := (row.drop i).length - (restL (row.drop i)).length
def begA (i : Nat) : Nat := i + gapA row i
def stopA (i : Nat) : Nat := begA row i + (row.drop (begA row i)).findIdx blankB
def allA (i : Nat) : List Int := placesL ((row.drop (begA row i)).take (stopA row i - begA row i))
def cutL (i : Nat) (p : Int) : List S33 := hyph (row.take (begA row i + p.toNat)) h
def fitsL (i : Nat) (p : Int) : Bool := decide (widthW (cutL row h i p) ≤ len)
def ansCut (i : Nat) (p : Int) : List S33 × List S33 × Bool := (cutL row h i p, restL (row.drop (begA row i + p.toNat + 1)), true)
def ansAt (i : Nat) : List S33 × List S33 × Bool :=
 match (allA row i).reverse.find? (fitsL row len h i) with
 | some p => ansCut row h i p
 | none => if 0 < i then (row.take i, restL (row.drop i), true) else
  match (allA row i)[0]? with
  | some p => ansCut row h i p
  | none => (row.take (stopA row i), restL (row.drop (stopA row i)), true)
def takeGo : Nat → Nat → List S33 × List S33 × Bool
 | 0, _ => (row, [], false)
 | f + 1, i => if i < row.length then
   if begA row i = row.length then (row, [], false)
   else if widthW (row.take (stopA row i)) ≤ len then takeGo f (stopA row i)
   else ansAt row len h i
  else (row, [], false)
end
def takeL (row : List S33) (len : Int) (h : S33) : List S33 × List S33 × Bool := takeGo (restL row) len h ((restL row).length + 1) 0
theorem restL_le (l : List S33) : (restL l).length ≤ l.length := by unfold restL; exact (List.dropWhile_sublist _).length_le
theorem restL_drop (l : List S33) : l.drop (l.length - (restL l).length) = restL l := by
 have h := List.takeWhile_append_dropWhile (p := blankB) (l := l)
 have h2 : l.length - (restL l).length = (l.takeWhile blankB).length := by
  unfold restL
  have h3 := congrArg List.length h
  rw [List.length_append] at h3
  omega
 rw [h2]
 have h4 : l.drop (l.takeWhile blankB).length = (l.takeWhile blankB ++ l.dropWhile blankB).drop (l.takeWhile blankB).length := by rw [h]
 rw [h4, List.drop_left]
 rfl
theorem restL_head {l : List S33} {x : S33} (h : (restL l)[0]? = some x) : blankB x = false := by
 unfold restL at h
 cases hd : l.dropWhile blankB with
 | nil => rw [hd] at h; simp at h
 | cons y r =>
  rw [hd] at h
  have e : y = x := by simpa using h
  subst e
  have := List.head?_dropWhile_not blankB l
  rw [hd] at this
  simpa using this
theorem begA_le {row : List S33} {i : Nat} (h : i ≤ row.length) : begA row i ≤ row.length := by
 unfold begA gapA
 have : (row.drop i).length = row.length - i := List.length_drop
 omega
theorem begA_drop {row : List S33} (i : Nat) : row.drop (begA row i) = restL (row.drop i) := by
 have := restL_drop (row.drop i)
 rw [List.drop_drop] at this
 exact this
theorem stopA_le {row : List S33} {i : Nat} (h : i ≤ row.length) : stopA row i ≤ row.length := by
 unfold stopA
 have h1 := begA_le (row := row) h
 have h2 := List.findIdx_le_length (p := blankB) (xs := row.drop (begA row i))
 have : (row.drop (begA row i)).length = row.length - begA row i := List.length_drop
 omega
theorem stopA_gt {row : List S33} {i : Nat} (h : i < row.length) (hb : begA row i ≠ row.length) : begA row i < stopA row i := by
 have h1 := begA_le (row := row) (Nat.le_of_lt h)
 unfold stopA
 have h2 : 0 < (row.drop (begA row i)).findIdx blankB := by
  rcases Nat.eq_zero_or_pos ((row.drop (begA row i)).findIdx blankB) with h0 | h0
  ·exfalso
   have hlen : 0 < (row.drop (begA row i)).length := by rw [List.length_drop]; omega
   have h3 := List.findIdx_getElem (w := by rw [h0]; exact hlen) (p := blankB) (xs := row.drop (begA row i))
   have h4 : (restL (row.drop i))[0]? = some ((row.drop (begA row i))[(row.drop (begA row i)).findIdx blankB]'(by rw [h0]; exact hlen)) := by
    rw [← begA_drop]
    rw [← List.getElem?_eq_getElem]
    rw [h0]
   rw [restL_head h4] at h3
   cases h3
  ·exact h0
 omega
theorem begA_ge (row : List S33) (i : Nat) : i ≤ begA row i := by unfold begA; omega
end Go.Proofs.YteadghhmoggjnaaB
end
section
namespace Go.Proofs.YteadghhmoggjnaaB
open Go.RowKit Go.Shelf
set_option maxHeartbeats 2000000
def noDefer (o : Oper) : Bool := match o.op with | .defer _ => false | _ => true
theorem oper_round {l n : Nat} {P : Program} {o : Oper} {a : Act} {w : World} {K : Act → World → Prop} {Q : Exit → Act → World → Prop} (hnd : noDefer o = true) (h : o.wp P a w K Q) : o.wpIn (Fence.wide.inRound l) n P a w K Q := by
 refine ⟨fun f _ => trivial, ?_⟩
 rw [Oper.semAt_plain _ _ _ (fun c hc => by unfold noDefer at hnd; rw [hc] at hnd; cases hnd)]
 unfold Oper.wp at h
 generalize (execOp a.eval o).run P w = r at *
 cases r with
 | ok n' w' =>
  cases n' <;> simp only [Oper.upon] at h
  case value u => exact h
  case skip => exact h
  case defer d => exact h
  case enter f args =>
   refine ⟨fun hd => (by cases hd), CallsIn.inRound l (callsIn_wide.2 (Calls.mono h fun e w'' he => ?_))⟩
   cases e with
   | returned u => exact he
   | panicked c => exact he
   | outgrown => exact he
  case row row args =>
   refine ⟨fun hd => (by cases hd), fun c cs _ => ?_⟩
   obtain ⟨v, w'', hR, hs⟩ := h c cs
   exact ⟨v, w'', hR, stepsIn_wide.2 hs⟩
 | halt x w' =>
  cases x <;> simp only [Oper.upon] at h
  case panic u => exact h
theorem wpAny_round {l n : Nat} {P : Program} {md : Region.Mode} {ops : Array Oper} {Q : Exit → Act → World → Prop} (hnd : ops.all noDefer = true) (hLO : ¬ LetsOut Q) : ∀ (fuel : Nat) (listed : Array Bool) (a : Act) (w : World), wpAny P md ops Q fuel listed a w → wpAnyIn (Fence.wide.inRound l) n P md ops Q fuel listed a w
 | 0, _, _, _, h => h
 | fuel + 1, listed, a, w, h => by
  refine ⟨h.1, fun i hi => ?_⟩
  have h2 := h.2 i hi
  unfold wpOp at h2
  unfold wpOpIn
  cases ho : ops[i]? with
  | none =>
   rw [ho] at h2
   exact wpAny_round hnd hLO fuel _ _ _ h2
  | some o =>
   rw [ho] at h2
   dsimp only at h2 ⊢
   split
   ·rename_i hw
    rw [if_pos hw] at h2
    rcases h2 with h2 | h2
    ·have hno : noDefer o = true := by
      obtain ⟨hi', rfl⟩ := Array.getElem?_eq_some_iff.1 ho
      exact Array.all_eq_true.1 hnd i hi'
     exact Oper.wpIn_mono (fun a' w' h' => wpAny_round hnd hLO fuel _ a' w' h') (oper_round hno h2)
    ·exact absurd h2.2 hLO
   ·rename_i hw
    rw [if_neg hw] at h2
    exact ⟨fun f _ => trivial, wpAny_round hnd hLO fuel _ _ _ h2⟩
theorem wpIn_region_round {l n id : Nat} {P : Program} {ops : Array Oper} {Q : Exit → Act → World → Prop} {a : Act} {w : World} (S : World → Prop) (hm : P.follows .mixedOrders = true) (hnd : ops.all noDefer = true) (hLO : ¬ LetsOut Q)
  (h : wpAnyH P .any ops Q S ops.size (Array.replicate ops.size false) a w.drew) : (Code.region id ops true).wpIn (Fence.wide.inRound l) n P Q a w :=
 wpIn_region_any hm (wpAny_round hnd hLO _ _ _ _ (wpAny_of_held _ _ _ _ h))
theorem take_first {P : Program} {ops : Array Oper} {Q : Exit → Act → World → Prop} {md : Region.Mode} {S : World → Prop} (i d : Nat) (v : Value) {oi : Oper} {fuel : Nat} {listed : Array Bool} {tmps : Array Value} {ds : List Deferred} {w : World} (hi : ops[i]? = some oi) (hd : oi.dst = some d)
  (hs : Region.noSelect ops = true) (hf : Region.free md ops listed i = true) (hr : (Region.ready md ops listed).contains i = true)
  (hQ : ∀ c a w, ¬ Q (.panic c) a w) (hy : YieldsIf P ops S oi v { tmps := tmps, defers := ds }) (hS : S w)
  (h : wpAnyH P md ops Q S fuel (listed.setIfInBounds i true) { tmps := tmps.setIfInBounds d v, defers := ds } w) : wpAnyH P md ops Q S (fuel + 1) listed { tmps := tmps, defers := ds } w :=
 wpAnyH_take hi hs hf hr (fun c a w h => absurd h (hQ _ _ _)) hy hS (by rw [hd]; exact h)
end Go.Proofs.YteadghhmoggjnaaB
end
end
