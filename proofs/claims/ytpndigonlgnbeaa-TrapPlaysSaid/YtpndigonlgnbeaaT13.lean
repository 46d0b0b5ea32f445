/- The trap table: what changes it: drop, Clear, Drop, Move, Plant. -/
import Derived.Test.YtpndigonlgnbeaaT12
set_option linter.unusedVariables false
set_option linter.unusedSimpArgs false
namespace Go.Proofs.Ytpndigonlgnbeaa
open Go.RowKit
set_option maxHeartbeats 1600000
set_option maxRecDepth 1000000

/-- A deed has been done at the table at g, whose row was v: its traps are ts' now; no block but the table's and its row's has turned. -/
def Mut (base : Nat) (w w' : World) (g : Nat) (v : Value) (ts' : List TrapT) : Prop :=
  ∃ v', Tab base w' g v' ts' ∧ Kept (fun k => k = g ∨ v.ownBlock = some k) w w' ∧ ∀ k, v'.ownBlock = some k → v.ownBlock = some k ∨ w.heap.size ≤ k
theorem Mut.same {base : Nat} {w w' : World} {g : Nat} {v : Value} {ts : List TrapT} (h : Tab base w g v ts) (hb : Below w.heap.size w w') : Mut base w w' g v ts :=
  ⟨v, h.below hb, Kept.of_below hb, fun k hk => .inl hk⟩
theorem Mut.after {base : Nat} {w w1 w' : World} {g : Nat} {v : Value} {ts : List TrapT} (hb : Below w.heap.size w w1) (h : Mut base w1 w' g v ts) (hv : ∀ k, v.ownBlock = some k → k < w.heap.size) : Mut base w w' g v ts := by
  obtain ⟨v', h1, h2, h3⟩ := h
  exact ⟨v', h1, (Kept.of_below (S := fun _ => False) hb).trans h2 (fun _ _ h => h.elim) (fun _ _ h => h), fun k hk => (h3 k hk).imp id (fun h => Nat.le_trans hb.size h)⟩

theorem drop_trap (gf : Nat) (lb : Array Value) (eg : ∀ args w, (callFunc gf args).run Try.prog w = .ok (.enter gf args) w) (p : TrapT → Bool) (base g : Nat) (v : Value) (ts : List TrapT) (w : World) (hT : Tab base w g v ts) (hn : ts.length ≤ 1000000)
    (hp : PredT (fun k => w.heap.size ≤ k) gf lb p w) (hbase : base ≤ w.heap.size) :
    Calls Try.prog 53 #[.pointer (some ⟨g, 0, none⟩), .func (.func gf) #[] lb] w fun e w' => e = .returned (.int .i64 (if (ts.filter fun x => !p x).length = ts.length then 3 else 0)) ∧ Mut base w w' g v (ts.filter fun x => !p x) := by
  have HT := hide hT
  obtain ⟨A, c, rfl, -, -, -, -, hrd⟩ := hT.own.form
  have HR := hide hrd
  have h0 := hT.c0
  have HP := hide hp
  clear hT hrd hp
  have key : ∀ r : Int, r = (if (ts.filter fun x => !p x).length = ts.length then 3 else 0) → Calls Try.prog 53 #[.pointer (some ⟨g, 0, none⟩), .func (.func gf) #[] lb] w fun e w' => e = .returned (.int .i64 r) ∧ Mut base w w' g (.slice A ts.length c) (ts.filter fun x => !p x) := by
    intro r hr
    obtain ⟨fl, hfl⟩ : ∃ fl, fl = ts.filter fun x => !p x := ⟨_, rfl⟩
    have hle : fl.length ≤ ts.length := by rw [hfl]; exact List.length_filter_le _ _
    rw [← hfl] at hr ⊢
    have HFL := hide hfl
    clear hfl
    have fin : ∀ (w1 w2 : World) (A1 : Option Addr) (c1 : Nat) (v3 : Value), Below w.heap.size w w1 → trapK.Own 33 w1 (fun _ => False) w.heap.size (.slice A1 ts.length c1) ts → trapK.Own 33 w2 (fun _ => False) w.heap.size v3 fl →
        Kept (fun k => (Value.slice A1 ts.length c1).ownBlock = some k) w1 w2 → Mut base w (w2.setCell ⟨g, 0, none⟩ v3) g (.slice A ts.length c) fl := by
      intro w1 w2 A1 c1 v3 hb ho1 ho3 hk
      have hk2 : Below w.heap.size w w2 := hb.trans (hk.below hb.size (fun i h => (ho1.lt i h).1))
      have hT2 := HT.out.below hk2
      have hne : v3.ownBlock ≠ some g := fun e => by have := (ho3.lt g e).1; have := HT.out.lt; omega
      refine ⟨v3, ⟨blk_set hT2.blk 0 v3, HT.out.hg, ?_⟩, ?_, fun k hk => .inr (ho3.lt k hk).1⟩
      · exact (ho3.lower hbase).step (fun k e => Below.heap_setCell w2 ⟨g, 0, none⟩ v3 k (fun e' => hne (by rw [e, e']))) (fun k h => h.elim)
      · exact (Kept.of_below hk2).setCell (.inl (.inl rfl)) _
    have FIN := hide fin
    clear fin
    by_cases he : fl.length = ts.length
    · rw [if_pos he] at hr
      subst hr
      have hie : ((fl.length : Int) == (ts.length : Int)) = true := beq_iff_eq.2 (by omega)
      have HE := hide he
      clear he
      go_enter Try.func53, Try.ntmps53
      go_wp2_with (first
        | (go_at_call 46; refine (Clone_trap A ts.length c ts _ _ HR.out (by omega)).mono ?_; rintro e w1 ⟨v1, rfl, q1, q2⟩; obtain ⟨A1, c1, rfl, -, -, -, -, -⟩ := Kind.Own.form q1; have Q1 := hide q1; have Q2 := hide q2; clear q1 q2)
        | (go_at_call 24
           refine (DeleteFunc_trap gf lb eg p A1 ts.length c1 ts _ _ Q1.out (by omega) ?_).mono ?_
           · intro W x hk
             exact HP.out W x ((Kept.of_below (S := fun _ => False) Q2.out).trans hk (fun _ _ h => h.elim) (fun i hi h => (Q1.out.lt i h).1))
           rintro e w2 ⟨v2, rfl, q1, q2, q3⟩
           rw [← HFL.out] at q1
           obtain ⟨A2, c2, rfl, -, -, -, -, -⟩ := Kind.Own.form q1
           have P1 := hide q1
           have P2 := hide q2
           have hT2 := HT.out.below (Q2.out.trans (q2.below (B := w.heap.size) Q2.out.size (fun i h => (Q1.out.lt i h).1)))
           have z0 := hT2.c0
           have z1 := hT2.frozen 0
           clear q1 q2 q3 hT2))
      go_ret
      exact ⟨rfl, FIN.out _ _ _ _ _ Q2.out Q1.out P1.out P2.out⟩
    · rw [if_neg he] at hr
      subst hr
      have hie : ((fl.length : Int) == (ts.length : Int)) = false := beq_eq_false_iff_ne.2 (by omega)
      have HE := hide he
      clear he
      go_enter Try.func53, Try.ntmps53
      go_wp2_with (first
        | (go_at_call 46; refine (Clone_trap A ts.length c ts _ _ HR.out (by omega)).mono ?_; rintro e w1 ⟨v1, rfl, q1, q2⟩; obtain ⟨A1, c1, rfl, -, -, -, -, -⟩ := Kind.Own.form q1; have Q1 := hide q1; have Q2 := hide q2; clear q1 q2)
        | (go_at_call 24
           refine (DeleteFunc_trap gf lb eg p A1 ts.length c1 ts _ _ Q1.out (by omega) ?_).mono ?_
           · intro W x hk
             exact HP.out W x ((Kept.of_below (S := fun _ => False) Q2.out).trans hk (fun _ _ h => h.elim) (fun i hi h => (Q1.out.lt i h).1))
           rintro e w2 ⟨v2, rfl, q1, q2, q3⟩
           rw [← HFL.out] at q1
           obtain ⟨A2, c2, rfl, -, -, -, -, -⟩ := Kind.Own.form q1
           have P1 := hide q1
           have P2 := hide q2
           have hT2 := HT.out.below (Q2.out.trans (q2.below (B := w.heap.size) Q2.out.size (fun i h => (Q1.out.lt i h).1)))
           have z0 := hT2.c0
           have z1 := hT2.frozen 0
           clear q1 q2 q3 hT2))
      go_ret
      exact ⟨rfl, FIN.out _ _ _ _ _ Q2.out Q1.out P1.out P2.out⟩
  exact key _ rfl

theorem clear1_any (x : TrapT) (b : Nat) (a : Int) (w : World) (h : w.cell? ⟨b, 0, none⟩ = some (.int .i64 a)) :
    Calls Try.prog 54 #[.agg #[.int .i64 x.at_, .string x.nm], .pointer (some ⟨b, 0, none⟩)] w fun e w' => e = .returned (.bool (x.at_ == a)) ∧ Below w.heap.size w w' := by
  have l := cell_lt h
  go_enter Try.func54, Try.ntmps54
  go_wp2_with fail
  go_ret
  exact ⟨rfl, (Below.refl _ _).alloc (Nat.le_refl _) _⟩
theorem drop1_any (x : TrapT) (b : Nat) (s : ByteArray) (w : World) (h : w.cell? ⟨b, 0, none⟩ = some (.string s)) :
    Calls Try.prog 56 #[.agg #[.int .i64 x.at_, .string x.nm], .pointer (some ⟨b, 0, none⟩)] w fun e w' => e = .returned (.bool (x.nm.toList == s.toList)) ∧ Below w.heap.size w w' := by
  have l := cell_lt h
  go_enter Try.func56, Try.ntmps56
  go_wp2_with fail
  go_ret
  exact ⟨rfl, (Below.refl _ _).alloc (Nat.le_refl _) _⟩
theorem move1_any (x : TrapT) (b : Nat) (s : ByteArray) (w : World) (h : w.cell? ⟨b, 0, none⟩ = some (.string s)) :
    Calls Try.prog 55 #[.agg #[.int .i64 x.at_, .string x.nm], .pointer (some ⟨b, 0, none⟩)] w fun e w' => e = .returned (.bool (x.nm.toList == s.toList)) ∧ Below w.heap.size w w' := by
  have l := cell_lt h
  go_enter Try.func55, Try.ntmps55
  go_wp2_with fail
  go_ret
  exact ⟨rfl, (Below.refl _ _).alloc (Nat.le_refl _) _⟩

/-- A box of the call's own. -/
theorem box_cell {w W : World} {u : Value} {t : TypeId} {S : Nat → Prop} (hk : Kept S (w.alloc (.cells #[u] t)) W) (hS : ¬ S w.heap.size) : W.cell? ⟨w.heap.size, 0, none⟩ = some u := by
  rw [blk_cell (blk_kept (blk_new w _) hk hS)]; rfl

/-- Clear as the document says. -/
def clearP (a : Int) (ts : List TrapT) : Int × List TrapT :=
  if farB a = true then (1, ts) else (if (ts.filter fun x => !(x.at_ == a)).length = ts.length then 3 else 0, ts.filter fun x => !(x.at_ == a))
theorem Clear_trap (base g : Nat) (v : Value) (ts : List TrapT) (a : Int) (w : World) (hT : Tab base w g v ts) (hn : ts.length ≤ 1000000) (hbase : base ≤ w.heap.size) :
    Calls Try.prog 31 #[.pointer (some ⟨g, 0, none⟩), .int .i64 a] w fun e w' => e = .returned (.int .i64 (clearP a ts).1) ∧ Mut base w w' g v (clearP a ts).2 := by
  have hal : Below w.heap.size w (w.alloc (.cells #[.int .i64 a] 3)) := (Below.refl _ _).alloc (Nat.le_refl _) _
  have hT2 := hT.below hal
  have h1 := hT2.c1
  have HT := hide hT
  have HT2 := hide hT2
  have HAL := hide hal
  have hc : Hid (clearP a ts = if farB a = true then (1, ts) else (if (ts.filter fun x => !(x.at_ == a)).length = ts.length then 3 else 0, ts.filter fun x => !(x.at_ == a))) := rfl
  obtain ⟨r, hr⟩ : ∃ r : Int, r = if (ts.filter fun x => !(x.at_ == a)).length = ts.length then 3 else 0 := ⟨_, rfl⟩
  have HRR := hide hr
  clear hT hT2 hal hr
  cases hf : farB a with
  | true =>
    go_enter Try.func31, Try.ntmps31
    go_wp2_with (first
      | (go_at_call 23; refine (none_some _ _ _ h1).mono ?_; rintro e w' ⟨rfl, rfl⟩)
      | (go_at_call 49; refine (far_any _ _).mono ?_; rintro e w' ⟨rfl, rfl⟩))
    go_ret
    rw [hc.out, if_pos hf]
    exact ⟨rfl, Mut.same HT.out HAL.out⟩
  | false =>
    go_enter Try.func31, Try.ntmps31
    go_wp2_with (first
      | (go_at_call 23; refine (none_some _ _ _ h1).mono ?_; rintro e w' ⟨rfl, rfl⟩)
      | (go_at_call 49; refine (far_any _ _).mono ?_; rintro e w' ⟨rfl, rfl⟩)
      | (go_at_call 53
         refine (drop_trap 54 #[.pointer (some ⟨w.heap.size, 0, none⟩)] (fun _ _ => rfl) (fun x => x.at_ == a) base g v ts _ HT2.out hn ?_ (Nat.le_trans hbase HAL.out.size)).mono ?_
         · intro W x hk
           exact clear1_any x _ a W (box_cell hk (by simp))
         rintro e w2 ⟨he, q⟩
         rw [← HRR.out] at he
         subst he
         have Q := hide q
         clear q))
    go_ret
    rw [hc.out, if_neg (by simp [hf])]
    exact ⟨by rw [HRR.out]; rfl, Q.out.after HAL.out (fun k hk => (HT.out.own.lt k hk).2)⟩

/-- Drop as the document says. -/
def dropP (s : ByteArray) (ts : List TrapT) : Int × List TrapT :=
  if nameB s = false then (6, ts) else (if (ts.filter fun x => !(x.nm.toList == s.toList)).length = ts.length then 3 else 0, ts.filter fun x => !(x.nm.toList == s.toList))
theorem Drop_trap (base g : Nat) (v : Value) (ts : List TrapT) (s : ByteArray) (w : World) (hT : Tab base w g v ts) (hn : ts.length ≤ 1000000) (hbase : base ≤ w.heap.size) (hs : s.size ≤ 9223372036854775807) :
    Calls Try.prog 33 #[.pointer (some ⟨g, 0, none⟩), .string s] w fun e w' => e = .returned (.int .i64 (dropP s ts).1) ∧ Mut base w w' g v (dropP s ts).2 := by
  have hal : Below w.heap.size w (w.alloc (.cells #[.string s] 9)) := (Below.refl _ _).alloc (Nat.le_refl _) _
  have hT2 := hT.below hal
  have h1 := hT2.c1
  have HT := hide hT
  have HT2 := hide hT2
  have HAL := hide hal
  have hc : Hid (dropP s ts = if nameB s = false then (6, ts) else (if (ts.filter fun x => !(x.nm.toList == s.toList)).length = ts.length then 3 else 0, ts.filter fun x => !(x.nm.toList == s.toList))) := rfl
  obtain ⟨r, hr⟩ : ∃ r : Int, r = if (ts.filter fun x => !(x.nm.toList == s.toList)).length = ts.length then 3 else 0 := ⟨_, rfl⟩
  have HRR := hide hr
  clear hT hT2 hal hr
  cases hf : nameB s with
  | false =>
    go_enter Try.func33, Try.ntmps33
    go_wp2_with (first
      | (go_at_call 23; refine (none_some _ _ _ h1).mono ?_; rintro e w' ⟨rfl, rfl⟩)
      | (go_at_call 52; refine (named_any _ _ hs).mono ?_; rintro e w2 ⟨rfl, q⟩; have Q := hide q; clear q))
    go_ret
    rw [hc.out, if_pos hf]
    exact ⟨rfl, Mut.same HT.out (below_self HAL.out Q.out)⟩
  | true =>
    go_enter Try.func33, Try.ntmps33
    go_wp2_with (first
      | (go_at_call 23; refine (none_some _ _ _ h1).mono ?_; rintro e w' ⟨rfl, rfl⟩)
      | (go_at_call 52; refine (named_any _ _ hs).mono ?_; rintro e w1 ⟨rfl, q⟩; have QN := hide q; clear q)
      | (go_at_call 53
         refine (drop_trap 56 #[.pointer (some ⟨w.heap.size, 0, none⟩)] (fun _ _ => rfl) (fun x => x.nm.toList == s.toList) base g v ts _ (HT2.out.below QN.out) hn ?_ (Nat.le_trans hbase (Nat.le_trans HAL.out.size QN.out.size))).mono ?_
         · intro W x hk
           exact drop1_any x _ s W (box_cell ((Kept.of_below (S := fun _ => False) QN.out).trans (U := fun k => (w.alloc (.cells #[.string s] 9)).heap.size ≤ k) hk (fun _ _ h => h.elim) (fun i hi h => Nat.le_trans QN.out.size h)) (by simp))
         rintro e w2 ⟨he, q⟩
         rw [← HRR.out] at he
         subst he
         have Q := hide q
         clear q))
    go_ret
    rw [hc.out, if_neg (by simp [hf])]
    exact ⟨by rw [HRR.out]; rfl, Q.out.after (below_self HAL.out QN.out) (fun k hk => (HT.out.own.lt k hk).2)⟩
end Go.Proofs.Ytpndigonlgnbeaa
