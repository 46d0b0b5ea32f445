import Derived.Test.YteadghhmoggjnaaFM14
set_option linter.unusedVariables false
set_option linter.unusedSimpArgs false
section
namespace Go.Proofs.Yteadghhmoggjnaa.Q
open Go.RowKit YteadghhmoggjnaaW.PrintWords YteadghhmoggjnaaW.PrintLast YteadghhmoggjnaaW.PrintMore
attribute [local go_sem] max2_int max_two
set_option maxHeartbeats 8000000
set_option maxRecDepth 100000
def r_own.l0 : Nat → List (S33) → List (S33) → Int → Option ((List (S33)))
 | 0, _, _, _ => none
 | k + 1, x0, x3, x4 => if x4 < (x0.length : Int) then (if 0 ≤ x4 then ((some (([] : List Int) : List Int)).bind fun y354 => (if y354.length + ((rT x0 x4).f6).length < 17592186044416 then (if x3.length < 1599289640401 then (r_own.l0 k x0 (x3 ++ [(⟨(rT x0 x4).f0, (rT x0 x4).f1, (rT x0 x4).f2, (rT x0 x4).f3, (rT x0 x4).f4, (rT x0 x4).f5, (y354 ++ ((rT x0 x4).f6))⟩ : S33)]) (wrap64 (x4 + 1))) else (none)) else (none))) else (none)) else (some x3)
def r_own.f (k : Nat) (l0 : List (S33)) : Option ((List (S33))) := r_own.l0 k l0 ([] : List (S33)) 0
theorem r_own.calls (k : Nat) (A0 : Option Addr) (c0 : Nat) (l0 : List (S33)) (r : List (S33)) (w : World) (hr0 : Kd.C k33 w A0 l0.length l0) (hc0 : l0.length ≤ c0) (h : r_own.f k l0 = some r) :
  Calls Try.prog 42 #[.slice A0 l0.length c0] w fun e w' => ∃ v0_ : Value, e = .returned (v0_) ∧ Kd.S k33 33 w' w.heap.size (fun _ => True) v0_ r ∧ Below w.heap.size w w' := by
 have hu33 := Try.underlying33
 have HR0 := o_ hr0
 have HC0 := o_ hc0
 clear hr0 hc0
 have HB := o_ (Below.refl w.heap.size w)
 have H : (r_own.l0 k l0 ([] : List (S33)) 0) = some r := h
 clear h
 have H' := o_ H
 clear H
 go_enter Try.func42, Try.ntmps42
 go_wp2
 go_loopg [3, 4] k (fun kq v3 v4 w' => ∃ (x3_1 : List (S33)) (x4_1 : Int), v4 = .int .i64 x4_1 ∧ As (r_own.l0 kq l0 x3_1 x4_1 = some r) ∧ As (kq ≤ k) ∧ As (Kd.S k33 33 w' w.heap.size (fun _ => True) v3 x3_1) ∧ As (Below w.heap.size w w'))
 case atStart => exact ⟨(([] : List (S33))), (0), (by first | rfl | simp [*]), H', ⟨Nat.le_refl _⟩, ⟨by first | exact Kd.S_nil _ _ _ _ _ | exact Kd.N_nil _ _ _ _ _ | exact Kd.V_nil _ _ _ _ _ | exact Kd.Q_nil _ _ _ _ _ | exact Kd.R_nil _ _ _ _ _⟩, ⟨by repeat (first | (with_reducible first | exact HB.out | apply below_alloc | apply pw_below_drewN | apply below_drew1) | exact HB.out)⟩⟩
 case round =>
  clear H'
  obtain ⟨x3_1, x4_1, rfl, HA, HK1, HO_3, HB⟩ := hrel
  cases gk with
  | zero => exact absurd HA.out (by simp [r_own.l0])
  | succ k1 =>
   have H := HA.out
   clear HA
   simp only [r_own.l0] at H
   by_cases c2 : x4_1 < (l0.length : Int)
   rotate_left
   ·rw [if_neg c2] at H
    have c2b0 := decide_eq_false c2
    clear c2
    obtain rfl := Option.some.inj H
    go_wp2
    go_ret
    exact ⟨_, by first | rfl | (simp [*] <;> rfl), Su HO_3, by repeat (first | (with_reducible first | exact HB.out | apply below_alloc | apply pw_below_drewN | apply below_drew1) | exact HB.out)⟩
   rw [if_pos c2] at H
   have c2b0 := decide_eq_true c2
   clear c2
   by_cases c3 : 0 ≤ x4_1
   rotate_left
   ·rw [if_neg c3] at H
    exact absurd H (by simp)
   rw [if_pos c3] at H
   have c3b0 := decide_eq_true c3
   clear c3
   obtain ⟨y354, hy354⟩ : ∃ y_ : List Int, y_ = (([] : List Int)) := ⟨_, rfl⟩
   replace H : (if y354.length + ((rT l0 x4_1).f6).length < 17592186044416 then (if x3_1.length < 1599289640401 then (r_own.l0 k1 l0 (x3_1 ++ [(⟨(rT l0 x4_1).f0, (rT l0 x4_1).f1, (rT l0 x4_1).f2, (rT l0 x4_1).f3, (rT l0 x4_1).f4, (rT l0 x4_1).f5, (y354 ++ ((rT l0 x4_1).f6))⟩ : S33)]) (wrap64 (x4_1 + 1))) else (none)) else (none)) = some r := by first | (rw [hy354]; with_reducible exact H) | (have H2_ := (Option.bind_some _ _).symm.trans H; rw [hy354]; with_reducible exact H2_) | (have H2_ := (Option.bind_some _ _).symm.trans H; with_reducible exact H2_) | with_reducible exact H | (rw [hy354]; exact H) | exact H
   have Ny354 := o_ hy354
   clear hy354
   by_cases c4 : y354.length + ((rT l0 x4_1).f6).length < 17592186044416
   rotate_left
   ·rw [if_neg c4] at H
    exact absurd H (by simp)
   rw [if_pos c4] at H
   have LMc4 := o_ c4
   clear c4
   obtain ⟨y357, hy357⟩ : ∃ y_ : List Int, y_ = (y354 ++ ((rT l0 x4_1).f6)) := ⟨_, rfl⟩
   replace H : (if x3_1.length < 1599289640401 then (r_own.l0 k1 l0 (x3_1 ++ [(⟨(rT l0 x4_1).f0, (rT l0 x4_1).f1, (rT l0 x4_1).f2, (rT l0 x4_1).f3, (rT l0 x4_1).f4, (rT l0 x4_1).f5, y357⟩ : S33)]) (wrap64 (x4_1 + 1))) else (none)) = some r := by first | (rw [hy357]; with_reducible exact H) | (have H2_ := (Option.bind_some _ _).symm.trans H; rw [hy357]; with_reducible exact H2_) | (have H2_ := (Option.bind_some _ _).symm.trans H; with_reducible exact H2_) | with_reducible exact H | (rw [hy357]; exact H) | exact H
   have Ny357 := o_ hy357
   clear hy357
   by_cases c5 : x3_1.length < 1599289640401
   rotate_left
   ·rw [if_neg c5] at H
    exact absurd H (by simp)
   rw [if_pos c5] at H
   have LMc5 := o_ c5
   clear c5
   obtain ⟨y360, hy360⟩ : ∃ y_ : List (S33), y_ = (x3_1 ++ [(⟨(rT l0 x4_1).f0, (rT l0 x4_1).f1, (rT l0 x4_1).f2, (rT l0 x4_1).f3, (rT l0 x4_1).f4, (rT l0 x4_1).f5, y357⟩ : S33)]) := ⟨_, rfl⟩
   replace H : (r_own.l0 k1 l0 y360 (wrap64 (x4_1 + 1))) = some r := by first | (rw [hy360]; with_reducible exact H) | (have H2_ := (Option.bind_some _ _).symm.trans H; rw [hy360]; with_reducible exact H2_) | (have H2_ := (Option.bind_some _ _).symm.trans H; with_reducible exact H2_) | with_reducible exact H | (rw [hy360]; exact H) | exact H
   have Ny360 := o_ hy360
   clear hy360
   have H' := o_ H
   clear H
   have p352 : 0 ≤ (x4_1 : Int) := oa
   have q352 : x4_1 < (l0.length : Int) := oa
   obtain ⟨ad352, A352_6, c352_6, e352, hx352_0, hx352_1, hx352_2, hx352_3, hx352_4, hx352_5, hx352_6, hl352_6, hi352_6⟩ := aT HR0.out x4_1 p352 q352
   cases e352
   obtain ⟨hx352_0, hx352_1, hx352_2, hx352_3, hx352_4, hx352_5, hx352_6⟩ := ct7 HB hx352_0 hx352_1 hx352_2 hx352_3 hx352_4 hx352_5 hx352_6
   have HR352_6 := o_ hi352_6
   have HC352_6 := o_ hl352_6
   clear hi352_6 hl352_6
   replace p352 := eq_true p352
   replace q352 := eq_true q352
   go_wp2_with (first | ((with_reducible refine gate_dst (N := 5) rfl ?_); refine box_event ?hg (N := 5) ?hd (cs := #[.int .i64 0, .int .i64 0, .int .i64 0, .int .i64 0, .string ⟨#[]⟩, .string ⟨#[]⟩, .slice none 0 0]) (t := 33) ?hr ?_; (case hd => rfl); (case hg => rfl); (case hr => first | (go_simp; done) | (go_simp; rfl)); intro gb353 hg w6 hbox hb; have n0_ := o_ (Kd.S_below (Kd.S_elderB (Su HO_3) gb353 (Nat.le_of_eq hg.symm)) hb); have n1_ := o_ (below_step (by repeat (first | (with_reducible first | exact HB.out | apply below_alloc | apply pw_below_drewN | apply below_drew1) | exact HB.out)) hb); have n2_ := o_ (hbox); have n3_ := o_ ((by rw [hg]; exact (below_size (by repeat (first | (with_reducible first | exact HB.out | apply below_alloc | apply pw_below_drewN | apply below_drew1) | exact HB.out))) : w.heap.size ≤ gb353)); have n4_ := o_ ((by rw [hg]; exact (below_size (by repeat (first | (with_reducible first | exact HB.out | apply below_alloc | apply pw_below_drewN | apply below_drew1) | exact HB.out))) : w.heap.size ≤ gb353)); clear HO_3; clear HB; have HO_3 := n0_; have HB := n1_; have BK353 := n2_; have GW353 := n3_; have GE353 := n4_; clear n0_ n1_ n2_ n3_ n4_; clear hb hbox hg; have z7 := box7 BK353) | ((with_reducible refine gate_dst (N := 16) rfl ?_); refine Kd.R_lit (Kd.int .i64) _ 3 ?hg (N := 16) ?hd (xs := ([] : List Int)) (inner := []) (ok := fun _ => True) (okp := fun _ => True) ?hr ?hp (fun _ hk => hk) trivial (Below.refl _ _) (Nat.le_refl _) (by simp) ?_; (case hd => rfl); (case hg => rfl); (case hr => first | (go_simp; done) | (go_simp; rfl)); (case hp => exact (Reps.none _ _)); intro v355 w8 ho9 hb hg_ hnew_; clear hg_ hnew_; (first | rw [← Ny354.out] at ho9 | (simp only [Int.reduceToNat] at ho9; rw [← Ny354.out] at ho9)); have n0_ := o_ (Kd.S_elder' (by (with_reducible repeat (first | apply Kd.S_alloc | apply Kd.S_drewN | apply Kd.S_drew)); exact (Kd.S_mono (Kd.S_far (p := ⟨gb353, 6, none⟩) (Kd.S_far (p := ⟨gb353, 5, none⟩) (Kd.S_far (p := ⟨gb353, 4, none⟩) (Kd.S_far (p := ⟨gb353, 3, none⟩) (Kd.S_far (p := ⟨gb353, 2, none⟩) (Kd.S_far (p := ⟨gb353, 1, none⟩) (Kd.S_far (p := ⟨gb353, 0, none⟩) (Kd.S_mono HO_3.out (fun k_ hk => (⟨hk, hk.2⟩ : _ ∧ k_ ≠ gb353))) (fun _ hk => hk.2) (.int .i64 ((rT l0 x4_1).f0))) (fun _ hk => hk.2) (.int .i64 ((rT l0 x4_1).f1))) (fun _ hk => hk.2) (.int .i64 ((rT l0 x4_1).f2))) (fun _ hk => hk.2) (.int .i64 ((rT l0 x4_1).f3))) (fun _ hk => hk.2) (.string ((rT l0 x4_1).f4))) (fun _ hk => hk.2) (.string ((rT l0 x4_1).f5))) (fun _ hk => hk.2) (.slice A352_6 ((rT l0 x4_1).f6).length c352_6)) (fun _ h_ => h_.1))) (Kd.R_base ho9) hb); have n1_ := o_ (Kd.R_lower ho9 (below_size (by repeat (first | (with_reducible first | exact HB.out | apply below_alloc | apply pw_below_drewN | apply below_drew1 | refine below_set ?_ GE353.out) | exact HB.out)))); have n2_ := o_ (blk_below (g := gb353) (o := .cells #[.int .i64 ((rT l0 x4_1).f0), .int .i64 ((rT l0 x4_1).f1), .int .i64 ((rT l0 x4_1).f2), .int .i64 ((rT l0 x4_1).f3), .string ((rT l0 x4_1).f4), .string ((rT l0 x4_1).f5), .slice A352_6 ((rT l0 x4_1).f6).length c352_6] 33 (0, 0)) (by (with_reducible repeat (first | refine blk_drewN ?_ _ | refine blk_drew ?_ | refine blk_alloc ?_ _)); refine blk_put (cs := #[.int .i64 ((rT l0 x4_1).f0), .int .i64 ((rT l0 x4_1).f1), .int .i64 ((rT l0 x4_1).f2), .int .i64 ((rT l0 x4_1).f3), .string ((rT l0 x4_1).f4), .string ((rT l0 x4_1).f5), .slice none 0 0]) ?_ 6 _ rfl; (with_reducible repeat (first | refine blk_drewN ?_ _ | refine blk_drew ?_ | refine blk_alloc ?_ _)); refine blk_put (cs := #[.int .i64 ((rT l0 x4_1).f0), .int .i64 ((rT l0 x4_1).f1), .int .i64 ((rT l0 x4_1).f2), .int .i64 ((rT l0 x4_1).f3), .string ((rT l0 x4_1).f4), .string ⟨#[]⟩, .slice none 0 0]) ?_ 5 _ rfl; (with_reducible repeat (first | refine blk_drewN ?_ _ | refine blk_drew ?_ | refine blk_alloc ?_ _)); refine blk_put (cs := #[.int .i64 ((rT l0 x4_1).f0), .int .i64 ((rT l0 x4_1).f1), .int .i64 ((rT l0 x4_1).f2), .int .i64 ((rT l0 x4_1).f3), .string ⟨#[]⟩, .string ⟨#[]⟩, .slice none 0 0]) ?_ 4 _ rfl; (with_reducible repeat (first | refine blk_drewN ?_ _ | refine blk_drew ?_ | refine blk_alloc ?_ _)); refine blk_put (cs := #[.int .i64 ((rT l0 x4_1).f0), .int .i64 ((rT l0 x4_1).f1), .int .i64 ((rT l0 x4_1).f2), .int .i64 0, .string ⟨#[]⟩, .string ⟨#[]⟩, .slice none 0 0]) ?_ 3 _ rfl; (with_reducible repeat (first | refine blk_drewN ?_ _ | refine blk_drew ?_ | refine blk_alloc ?_ _)); refine blk_put (cs := #[.int .i64 ((rT l0 x4_1).f0), .int .i64 ((rT l0 x4_1).f1), .int .i64 0, .int .i64 0, .string ⟨#[]⟩, .string ⟨#[]⟩, .slice none 0 0]) ?_ 2 _ rfl; (with_reducible repeat (first | refine blk_drewN ?_ _ | refine blk_drew ?_ | refine blk_alloc ?_ _)); refine blk_put (cs := #[.int .i64 ((rT l0 x4_1).f0), .int .i64 0, .int .i64 0, .int .i64 0, .string ⟨#[]⟩, .string ⟨#[]⟩, .slice none 0 0]) ?_ 1 _ rfl; (with_reducible repeat (first | refine blk_drewN ?_ _ | refine blk_drew ?_ | refine blk_alloc ?_ _)); refine blk_put (cs := #[.int .i64 0, .int .i64 0, .int .i64 0, .int .i64 0, .string ⟨#[]⟩, .string ⟨#[]⟩, .slice none 0 0]) ?_ 0 _ rfl; (with_reducible repeat (first | refine blk_drewN ?_ _ | refine blk_drew ?_ | refine blk_alloc ?_ _)); exact BK353.out) hb); have n3_ := o_ (below_step (by repeat (first | (with_reducible first | exact HB.out | apply below_alloc | apply pw_below_drewN | apply below_drew1 | refine below_set ?_ GE353.out) | exact HB.out)) hb); clear HO_3; clear BK353; clear HB; have HO_3 := n0_; have HO356 := n1_; have BK353 := n2_; have HB := n3_; clear n0_ n1_ n2_ n3_; clear hb ho9; have z10 := box7 BK353) | ((with_reducible refine gate_builtin (b := .append) (xs := #[.tmp 16, .tmp 18]) rfl ?_); at_builtin; refine Kd.R_append_rows (Kd.int .i64) (w0 := w) w.heap.size rfl (.tmp 16) (.tmp 18) 22 3 (.int .i64 0) 8 rfl Try.underlying22 info3 rfl (by decide) (by omega) v355 y354 ((rT l0 x4_1).f6) _ _ _ (fun _ => True) (fun _ => False) rfl rfl ?aO ?aR (fun _ _ h => h) (fun _ h => h.elim) ?aF ?aB ?aS ?aL ?_; (case aR => repeat (first | exact (Kd.C_below HR352_6.out HB.out) | (with_reducible refine Kd.C_alloc ?_ _) | (with_reducible refine Kd.C_drewN ?_ _) | (with_reducible refine Kd.C_drew ?_))); (case aB => exact (by repeat (first | (with_reducible first | exact HB.out | apply below_alloc | apply pw_below_drewN | apply below_drew1 | refine below_set ?_ GE353.out) | exact HB.out))); (case aF => exact (fun _ _ => trivial)); (case aO => exact (Ru HO356)); (case aS => exact (below_size (by repeat (first | (with_reducible first | exact HB.out | apply below_alloc | apply pw_below_drewN | apply below_drew1 | refine below_set ?_ GE353.out) | exact HB.out)))); (case aL => have := LMc4.out; omega); intro v358 w11 ho hb hg hat; rw [← Ny357.out] at ho; have n0_ := o_ (Kd.S_after (ok := (fun k_ => k_ ≠ gb353)) (by (with_reducible repeat (first | apply Kd.S_alloc | apply Kd.S_drewN | apply Kd.S_drew)); exact Kd.S_mono HO_3.out (fun _ hk => ⟨hk.1.2, hk.2⟩)) hg hat); have n1_ := o_ (blk_grown (g := gb353) (o := .cells #[.int .i64 ((rT l0 x4_1).f0), .int .i64 ((rT l0 x4_1).f1), .int .i64 ((rT l0 x4_1).f2), .int .i64 ((rT l0 x4_1).f3), .string ((rT l0 x4_1).f4), .string ((rT l0 x4_1).f5), .slice A352_6 ((rT l0 x4_1).f6).length c352_6] 33 (0, 0)) (bu BK353) hg (Kd.R_ne HO356.out BK353.out (by decide))); have n2_ := o_ (hb); have n3_ := o_ (ho); clear HO_3; clear BK353; clear HB; clear HO356; have HO_3 := n0_; have BK353 := n1_; have HB := n2_; have HO359 := n3_; clear n0_ n1_ n2_ n3_; clear ho hb hg hat; obtain ⟨Ao12, co12, eo12⟩ := Kd.R_slice HO359.out; subst eo12; have z13 := box7 BK353) | ((with_reducible refine gate_store (t := 22) (p := 20) rfl ?_); refine store_event (t := 22) (p := 20) (v := ?vo_w14) (w1 := (w11.setCell ⟨gb353, 6, none⟩ (.slice Ao12 y357.length co12))) ?hg ?ho ?hn ?hr ?_; (case ho => rfl); (case hg => rfl); (case hn => rfl); (case hr => first | (go_simp; done) | (go_simp; rfl)); intro w14 hw; have n0_ : As (Kd.S k33 33 w14 w.heap.size (fun k_ => some k_ ≠ (.slice Ao12 y357.length co12 : Value).ownBlock ∧ k_ ≠ gb353) u3 x3_1) := ⟨(by rw [hw]; exact (by (with_reducible repeat (first | apply Kd.S_alloc | apply Kd.S_drewN | apply Kd.S_drew)); exact Kd.S_mono (Kd.S_far (p := ⟨gb353, 6, none⟩) (Kd.S_mono HO_3.out (fun k_ hk => (⟨hk, hk.1⟩ : _ ∧ k_ ≠ gb353))) (fun _ hk => hk.2) (.slice Ao12 y357.length co12)) (fun _ hk => ⟨hk.1.2, hk.1.1⟩)))⟩; have n1_ : As (Kd.R (Kd.int .i64) 3 w14 w.heap.size (fun _ => True) (.slice Ao12 y357.length co12) y357) := ⟨(by rw [hw]; exact (by (with_reducible repeat (first | apply Kd.R_alloc | apply Kd.R_drewN | apply Kd.R_drew)); exact Kd.R_mono (Kd.R_far (p := ⟨gb353, 6, none⟩) (Kd.R_types HO359.out BK353.out (by decide)) (fun _ hk => hk.2) (.slice Ao12 y357.length co12)) (fun _ hk => trivial)))⟩; have n2_ : As (w14.heap[gb353]? = some (.cells #[.int .i64 ((rT l0 x4_1).f0), .int .i64 ((rT l0 x4_1).f1), .int .i64 ((rT l0 x4_1).f2), .int .i64 ((rT l0 x4_1).f3), .string ((rT l0 x4_1).f4), .string ((rT l0 x4_1).f5), .slice Ao12 y357.length co12] 33 (0, 0))) := ⟨(by rw [hw]; exact (by (with_reducible repeat (first | refine blk_drewN ?_ _ | refine blk_drew ?_ | refine blk_alloc ?_ _)); refine blk_put (cs := #[.int .i64 ((rT l0 x4_1).f0), .int .i64 ((rT l0 x4_1).f1), .int .i64 ((rT l0 x4_1).f2), .int .i64 ((rT l0 x4_1).f3), .string ((rT l0 x4_1).f4), .string ((rT l0 x4_1).f5), .slice A352_6 ((rT l0 x4_1).f6).length c352_6]) ?_ 6 _ rfl; (with_reducible repeat (first | refine blk_drewN ?_ _ | refine blk_drew ?_ | refine blk_alloc ?_ _)); exact BK353.out))⟩; have n3_ : As (Below w.heap.size w w14) := ⟨(by rw [hw]; exact (by repeat (first | (with_reducible first | exact HB.out | apply below_alloc | apply pw_below_drewN | apply below_drew1 | refine below_set ?_ GE353.out) | exact HB.out)))⟩; clear hw; clear HO_3; clear HO359; clear BK353; clear HB; have HO_3 := n0_; have HO359 := n1_; have BK353 := n2_; have HB := n3_; clear n0_ n1_ n2_ n3_; have z15 := box7 BK353) | ((with_reducible refine gate_builtin (b := .append) (xs := #[.tmp 21, .tmp 23]) rfl ?_); at_builtin; refine Kd.S_append k33 (w0 := w) w.heap.size rfl (.tmp 21) (.tmp 23) 23 33 (.agg #[(.int .i64 0), (.int .i64 0), (.int .i64 0), (.int .i64 0), (.string ⟨#[]⟩), (.string ⟨#[]⟩), (.slice none 0 0)]) 88 rfl Try.underlying23 info33 rfl (by decide) (by omega) u3 x3_1 (⟨(rT l0 x4_1).f0, (rT l0 x4_1).f1, (rT l0 x4_1).f2, (rT l0 x4_1).f3, (rT l0 x4_1).f4, (rT l0 x4_1).f5, y357⟩ : S33) [.int .i64 ((rT l0 x4_1).f0), .int .i64 ((rT l0 x4_1).f1), .int .i64 ((rT l0 x4_1).f2), .int .i64 ((rT l0 x4_1).f3), .string ((rT l0 x4_1).f4), .string ((rT l0 x4_1).f5), .slice Ao12 y357.length co12] (fun k_ => k_ ≠ gb353) (fun k_ => some k_ = (.slice Ao12 y357.length co12 : Value).ownBlock) rfl rfl ?aP (fun k_ hk_ => ((Kd.R_mono (ok' := fun k_ => ((fun k_ => k_ ≠ gb353)) k_ ∧ some k_ ≠ (u3 : Value).ownBlock) (Kd.R_types (Kd.R_apart' (HO359.out) (Kd.S_typed HO_3.out) (by decide)) BK353.out (by decide)) (fun k_ hk => ⟨hk.2, hk.1.2⟩))).1 k_ hk_.symm) ?aF ?aO ?aB ?aS ?aL ?_; (case aP => exact k33_mkM _ _ _ (⟨(rT l0 x4_1).f0, (rT l0 x4_1).f1, (rT l0 x4_1).f2, (rT l0 x4_1).f3, (rT l0 x4_1).f4, (rT l0 x4_1).f5, y357⟩ : S33) (Kd.R_mono (Kd.R_tight rfl (Kd.R_mono (ok' := fun k_ => ((fun k_ => k_ ≠ gb353)) k_ ∧ some k_ ≠ (u3 : Value).ownBlock) (Kd.R_types (Kd.R_apart' (HO359.out) (Kd.S_typed HO_3.out) (by decide)) BK353.out (by decide)) (fun k_ hk => ⟨hk.2, hk.1.2⟩))) (fun _ h_ => h_))); (case aB => exact (by repeat (first | (with_reducible first | exact HB.out | apply below_alloc | apply pw_below_drewN | apply below_drew1 | refine below_set ?_ GE353.out) | exact HB.out))); (case aF => exact (fun k_ hk => Kd.freshB (g := gb353) (o := .cells #[.int .i64 ((rT l0 x4_1).f0), .int .i64 ((rT l0 x4_1).f1), .int .i64 ((rT l0 x4_1).f2), .int .i64 ((rT l0 x4_1).f3), .string ((rT l0 x4_1).f4), .string ((rT l0 x4_1).f5), .slice Ao12 y357.length co12] 33 (0, 0)) (bu BK353) k_ hk)); (case aO => exact (by (with_reducible repeat (first | apply Kd.S_alloc | apply Kd.S_drewN | apply Kd.S_drew)); exact Kd.S_mono HO_3.out (fun k_ hk => ⟨hk.2, fun e_ => hk.1 e_⟩))); (case aS => exact (below_size (by repeat (first | (with_reducible first | exact HB.out | apply below_alloc | apply pw_below_drewN | apply below_drew1 | refine below_set ?_ GE353.out) | exact HB.out)))); (case aL => have := LMc5.out; omega); intro v361 w16 ho hb hg hat; rw [← Ny360.out] at ho; have n0_ := o_ (blk_grown (g := gb353) (o := .cells #[.int .i64 ((rT l0 x4_1).f0), .int .i64 ((rT l0 x4_1).f1), .int .i64 ((rT l0 x4_1).f2), .int .i64 ((rT l0 x4_1).f3), .string ((rT l0 x4_1).f4), .string ((rT l0 x4_1).f5), .slice Ao12 y357.length co12] 33 (0, 0)) (bu BK353) hg (Kd.S_away HO_3.out (fun _ hk => hk.2))); have n1_ := o_ (hb); have n2_ := o_ (ho); clear BK353; clear HB; clear HO_3; clear HO359; have BK353 := n0_; have HB := n1_; have HO362 := n2_; clear n0_ n1_ n2_; clear ho hb hg hat))
   go_roundg k1
   case measure => have := HK1.out; omega
   case rel => exact ⟨(y360), (wrap64 (x4_1 + 1)), (by first | rfl | simp [*]), H', ⟨by have := HK1.out; omega⟩, ⟨by (with_reducible repeat (first | apply Kd.S_alloc | apply Kd.S_drewN | apply Kd.S_drew)); exact Kd.S_mono HO362.out (fun _ hk => trivial)⟩, ⟨by repeat (first | (with_reducible first | exact HB.out | apply below_alloc | apply pw_below_drewN | apply below_drew1 | refine below_set ?_ GE353.out) | exact HB.out)⟩⟩
def r_Words.l0 : Nat → List (S33) → List (List (S33)) → Int → Option ((List (List (S33))))
 | 0, _, _, _ => none
 | k + 1, x0, x3, x4 => if x4 < (x0.length : Int) then ((r_word.f k x0 x4).bind fun t363 => (if t363 > 0 then (if 0 ≤ x4 then (if x4 ≤ (wrap64 (x4 + t363)) then (if (wrap64 (x4 + t363)) ≤ (x0.length : Int) then ((r_own.f k ((x0.take ((wrap64 (x4 + t363)) : Int).toNat).drop (x4 : Int).toNat)).bind fun t368 => (if x3.length < 5864062014805 then (r_Words.l0 k x0 (x3 ++ [t368]) (wrap64 (x4 + (mx t363 1)))) else (none))) else (none)) else (none)) else (none)) else (r_Words.l0 k x0 x3 (wrap64 (x4 + (mx t363 1)))))) else (some x3)
def r_Words.f (k : Nat) (l0 : List (S33)) : Option ((List (List (S33)))) := r_Words.l0 k l0 ([] : List (List (S33))) 0
theorem r_Words.calls (k : Nat) (A0 : Option Addr) (c0 : Nat) (l0 : List (S33)) (r : List (List (S33))) (w : World) (hr0 : Kd.C k33 w A0 l0.length l0) (hc0 : l0.length ≤ c0) (h : r_Words.f k l0 = some r) :
  Calls Try.prog 23 #[.slice A0 l0.length c0] w fun e w' => ∃ v0_ : Value, e = .returned (v0_) ∧ Kd.R (Kd.slice 33 k33) 23 w' w.heap.size (fun _ => True) v0_ r ∧ Below w.heap.size w w' := by
 have HR0 := o_ hr0
 have HC0 := o_ hc0
 clear hr0 hc0
 have HB := o_ (Below.refl w.heap.size w)
 have H : (r_Words.l0 k l0 ([] : List (List (S33))) 0) = some r := h
 clear h
 have H' := o_ H
 clear H
 go_enter Try.func23, Try.ntmps23
 go_wp2
 go_loopg [3, 4] k (fun kq v3 v4 w' => ∃ (x3_1 : List (List (S33))) (x4_1 : Int), v4 = .int .i64 x4_1 ∧ As (r_Words.l0 kq l0 x3_1 x4_1 = some r) ∧ As (kq ≤ k) ∧ As (Kd.R (Kd.slice 33 k33) 23 w' w.heap.size (fun _ => True) v3 x3_1) ∧ As (Below w.heap.size w w'))
 case atStart => exact ⟨(([] : List (List (S33)))), (0), (by first | rfl | simp [*]), H', ⟨Nat.le_refl _⟩, ⟨by first | exact Kd.R_nil _ _ _ _ _ | exact Kd.N_nil _ _ _ _ _ | exact Kd.V_nil _ _ _ _ _ | exact Kd.Q_nil _ _ _ _ _ | exact Kd.S_nil _ _ _ _ _⟩, ⟨bl HB⟩⟩
 case round =>
  clear H'
  obtain ⟨x3_1, x4_1, rfl, HA, HK1, HO_3, HB⟩ := hrel
  cases gk with
  | zero => exact absurd HA.out (by simp [r_Words.l0])
  | succ k1 =>
   have H := HA.out
   clear HA
   simp only [r_Words.l0] at H
   by_cases c2 : x4_1 < (l0.length : Int)
   rotate_left
   ·rw [if_neg c2] at H
    have c2b0 := decide_eq_false c2
    clear c2
    obtain rfl := Option.some.inj H
    go_wp2
    go_ret
    exact ⟨_, by first | rfl | (simp [*] <;> rfl), Ru HO_3, bl HB⟩
   rw [if_pos c2] at H
   have c2b0 := decide_eq_true c2
   clear c2
   obtain ⟨t363, A30, H⟩ := qb H
   try dsimp only at H
   have A3 := o_ A30
   clear A30
   by_cases c4 : t363 > 0
   rotate_left
   ·rw [if_neg c4] at H
    have c4b0 : decide (0 < t363) = false := decide_eq_false c4
    clear c4
    obtain ⟨ji16, hji16⟩ : ∃ j_ : Int, (mx t363 1) = j_ := ⟨_, rfl⟩
    replace H : (r_Words.l0 k1 l0 x3_1 (wrap64 (x4_1 + (ji16)))) = some r := by first | (rw [hji16] at H; exact H) | (simp only [hji16] at H ⊢; exact H)
    (try rw [hji16] at A3)
    (try (have hji16l : 1 ≤ ji16 := by (rw [← hji16]; unfold mx; (repeat' split) <;> omega)))
    (try (have hji16m : 0 ≤ ji16 := by omega))
    have hji16_ : (if t363 < 1 then 1 else t363) = ji16 := hji16
    have H' := o_ H
    clear H
    go_wp2_with (first | (go_at_call 41; (with_reducible refine (r_word.calls k1 _ _ l0 x4_1 t363 _ ?side1 ?side2 A3.out).mono ?_); (case side1 => exact Kd.C_below HR0.out (bl HB)); (case side2 => exact HC0.out); rintro e w17 ⟨rfl, hb⟩; have n0_ := o_ (Kd.R_below (Ru HO_3) hb); have n1_ := o_ (below_step (bl HB) hb); clear HO_3; clear HB; have HO_3 := n0_; have HB := n1_; clear n0_ n1_; (try clear hb)))
    go_roundg k1
    case measure => have := HK1.out; omega
    case rel => exact ⟨(x3_1), (wrap64 (x4_1 + (ji16))), (by first | rfl | (simp; done) | (simp only [← hji16] <;> (first | rfl | simp)) | (simp [*]; done)), H', ⟨by have := HK1.out; omega⟩, ⟨Ru HO_3⟩, ⟨bl HB⟩⟩
   rw [if_pos c4] at H
   have c4b0 : decide (0 < t363) = true := decide_eq_true c4
   clear c4
   by_cases c5 : 0 ≤ x4_1
   rotate_left
   ·rw [if_neg c5] at H
    exact absurd H (by simp)
   rw [if_pos c5] at H
   have c5b0 := eq_true c5
   have c5b1 := decide_eq_true c5
   clear c5
   by_cases c6 : x4_1 ≤ (wrap64 (x4_1 + t363))
   rotate_left
   ·rw [if_neg c6] at H
    exact absurd H (by simp)
   rw [if_pos c6] at H
   have c6b0 := eq_true c6
   have c6b1 := decide_eq_true c6
   by_cases c7 : (wrap64 (x4_1 + t363)) ≤ (l0.length : Int)
   rotate_left
   ·rw [if_neg c7] at H
    exact absurd H (by simp)
   rw [if_pos c7] at H
   have c7b0 := eq_true c7
   have c7b1 := decide_eq_true c7
   obtain ⟨y364, hy364⟩ : ∃ y_ : List (S33), y_ = ((l0.take ((wrap64 (x4_1 + t363)) : Int).toNat).drop (x4_1 : Int).toNat) := ⟨_, rfl⟩
   replace H : ((r_own.f k1 y364).bind fun t368 => (if x3_1.length < 5864062014805 then (r_Words.l0 k1 l0 (x3_1 ++ [t368]) (wrap64 (x4_1 + (mx t363 1)))) else (none))) = some r := by first | (rw [hy364]; with_reducible exact H) | (have H2_ := (Option.bind_some _ _).symm.trans H; rw [hy364]; with_reducible exact H2_) | (have H2_ := (Option.bind_some _ _).symm.trans H; with_reducible exact H2_) | with_reducible exact H | (rw [hy364]; exact H) | exact H
   have Ny364 := o_ hy364
   clear hy364
   obtain ⟨t368, A80, H⟩ := qb H
   try dsimp only at H
   have A8 := o_ A80
   clear A80
   by_cases c9 : x3_1.length < 5864062014805
   rotate_left
   ·rw [if_neg c9] at H
    exact absurd H (by simp)
   rw [if_pos c9] at H
   have LMc9 := o_ c9
   clear c9
   obtain ⟨y371, hy371⟩ : ∃ y_ : List (List (S33)), y_ = (x3_1 ++ [t368]) := ⟨_, rfl⟩
   replace H : (r_Words.l0 k1 l0 y371 (wrap64 (x4_1 + (mx t363 1)))) = some r := by first | (rw [hy371]; with_reducible exact H) | (have H2_ := (Option.bind_some _ _).symm.trans H; rw [hy371]; with_reducible exact H2_) | (have H2_ := (Option.bind_some _ _).symm.trans H; with_reducible exact H2_) | with_reducible exact H | (rw [hy371]; exact H) | exact H
   have Ny371 := o_ hy371
   clear hy371
   obtain ⟨ji10, hji10⟩ : ∃ j_ : Int, (mx t363 1) = j_ := ⟨_, rfl⟩
   replace H : (r_Words.l0 k1 l0 y371 (wrap64 (x4_1 + (ji10)))) = some r := by first | (rw [hji10] at H; exact H) | (simp only [hji10] at H ⊢; exact H)
   (try rw [hji10] at A3)
   (try rw [hji10] at A8)
   (try (have hji10l : 1 ≤ ji10 := by (rw [← hji10]; unfold mx; (repeat' split) <;> omega)))
   (try (have hji10m : 0 ≤ ji10 := by omega))
   have hji10_ : (if t363 < 1 then 1 else t363) = ji10 := hji10
   have H' := o_ H
   clear H
   go_wp2_with (first | (go_at_call 41; (with_reducible refine (r_word.calls k1 _ _ l0 x4_1 t363 _ ?side1 ?side2 A3.out).mono ?_); (case side1 => exact Kd.C_below HR0.out (bl HB)); (case side2 => exact HC0.out); rintro e w11 ⟨rfl, hb⟩; have n0_ := o_ (Kd.R_below (Ru HO_3) hb); have n1_ := o_ (below_step (bl HB) hb); clear HO_3; clear HB; have HO_3 := n0_; have HB := n1_; clear n0_ n1_; (try clear hb); have q12 : ((wrap64 (x4_1 + t363)) : Int) ≤ ((l0.length : Int) : Int) := oa; obtain ⟨i012, hi012, _, hsz12, _⟩ := info_parts info33; have hroom12 : l0.length ≤ c0 := HC0.out; have hC12 : Kd.C k33 _ A0 l0.length l0 := HR0.out; have ql12 : (x4_1 : Int) ≤ ((wrap64 (x4_1 + t363)) : Int) := oa; have q012 : (0 : Int) ≤ (x4_1 : Int) := oa; have hcut12 := cut_mid (P := Try.prog) 23 33 .i64 .i64 Try.underlying23 hi012 7 hsz12 A0 l0.length c0 x4_1 (wrap64 (x4_1 + t363)) q012 ql12 q12 hroom12; have hr12 := Kd.C_mid (lo := (x4_1 : Int).toNat) (hi := ((wrap64 (x4_1 + t363)) : Int).toNat) (c := c0) hC12 (by omega) (by omega) hroom12; obtain ⟨A12, hA12⟩ : ∃ A1, A1 = (if c0 = (x4_1 : Int).toNat then A0 else (A0 : Option Addr).map (·.add ((x4_1 : Int).toNat * 7))) := ⟨_, rfl⟩; obtain ⟨c12, hc12⟩ : ∃ c1, c1 = c0 - (x4_1 : Int).toNat := ⟨_, rfl⟩; have hy12 : y364.length = ((wrap64 (x4_1 + t363)) : Int).toNat - (x4_1 : Int).toNat := (by rw [Ny364.out, List.length_drop, List.length_take] <;> omega); rw [show ((l0).take ((wrap64 (x4_1 + t363)) : Int).toNat).drop (x4_1 : Int).toNat = y364 from Ny364.out.symm] at hr12; replace hr12 : Kd.C k33 _ A12 y364.length y364 := (by rw [hA12]; exact hr12); rw [← hy12, ← hA12, ← hc12] at hcut12; have HR367 := o_ hr12; have HC367 := o_ (show y364.length ≤ c12 from by rw [hy12, hc12]; exact Nat.sub_le_sub_right (Nat.le_trans (by omega) hroom12) _); clear hr12 hC12 hroom12 hi012 hsz12 hc12; have KY12 := o_ hy12; have KA12 := o_ hA12; clear hy12 hA12; replace q12 := eq_true q12) | (go_at_call 42; (with_reducible refine (r_own.calls k1 _ _ y364 t368 _ ?side1 ?side2 A8.out).mono ?_); (case side1 => exact Kd.C_below HR367.out (bl HB)); (case side2 => exact HC367.out); rintro e w13 ⟨v369, rfl, ho0, hb⟩; have n0_ := o_ (Kd.R_elder' (Ru HO_3) (Kd.S_base ho0) hb); have n1_ := o_ (Kd.S_lower ho0 (below_size (bl HB))); have n2_ := o_ (below_step (bl HB) hb); clear HO_3; clear HB; have HO_3 := n0_; have HO370 := n1_; have HB := n2_; clear n0_ n1_ n2_; (try clear hb); (try clear ho0); obtain ⟨Ao15, co15, eo15⟩ := Kd.S_slice HO370.out; subst eo15) | ((with_reducible refine gate_builtin (b := .append) (xs := #[.tmp 15, .tmp 23]) rfl ?_); at_builtin; refine Kd.R_append (Kd.slice 33 k33) (w0 := w) w.heap.size rfl (.tmp 15) (.tmp 23) 43 23 (.slice none 0 0) 24 rfl Try.underlying43 info23 rfl (by decide) (by omega) u3 x3_1 t368 [.slice Ao15 t368.length co15] (fun _ => True) (fun k_ => ((fun _ => True)) k_ ∧ some k_ ≠ (u3 : Value).ownBlock) rfl rfl ?aP (fun _ hk => hk) ?aF ?aO ?aB ?aS ?aL ?_; (case aP => exact Kd.M_row (Kd.R_mono (Kd.R_apart' ((Kd.S_R HO370.out)) (Kd.R_typed HO_3.out) (by decide)) (fun k_ hk => ⟨trivial, hk.2⟩))); (case aB => exact (bl HB)); (case aF => exact (fun _ _ => trivial)); (case aO => exact (by (with_reducible repeat (first | apply Kd.R_alloc | apply Kd.R_drewN | apply Kd.R_drew)); exact Kd.R_mono HO_3.out (fun _ hk => trivial))); (case aS => exact (below_size (bl HB))); (case aL => have := LMc9.out; omega); intro v372 w14 ho hb hg hat; rw [← Ny371.out] at ho; have n0_ := o_ (hb); have n1_ := o_ (ho); clear HB; clear HO_3; clear HO370; have HB := n0_; have HO373 := n1_; clear n0_ n1_; clear ho hb hg hat))
   go_roundg k1
   case measure => have := HK1.out; omega
   case rel => exact ⟨(y371), (wrap64 (x4_1 + (ji10))), (by first | rfl | (simp; done) | (simp only [← hji10] <;> (first | rfl | simp)) | (simp [*]; done)), H', ⟨by have := HK1.out; omega⟩, ⟨Ru HO373⟩, ⟨bl HB⟩⟩
end Go.Proofs.Yteadghhmoggjnaa.Q
end
