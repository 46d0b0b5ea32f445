import Derived.BigRegion
import Derived.RegionTactic
import Derived.Test.YteadghhmoggjnaaFM4
set_option linter.unusedVariables false
set_option linter.unusedSimpArgs false
section
section
namespace Go.Proofs.YteadghhmoggjnaaB
open Go.RowKit
open Yteadghhmoggjnaa.Q (S33 k33 z33 k33_open k33_mk k33_mkM)
open YteadghhmoggjnaaW.PrintWords (Kd ReadsRow)
set_option maxHeartbeats 1600000
set_option maxRecDepth 1000000
theorem cell_stays {w w' : World} {b o : Nat} {v : Value} (hb : Below w.heap.size w w') (h : w.cell? ⟨b, o, none⟩ = some v) : w'.cell? ⟨b, o, none⟩ = some v := (cell_same (hb.block b (cell_lt h)) o).trans h
theorem own_int {e : TypeId} {w : World} {ok ok' : Nat → Prop} {base : Nat} {v : Value} {l : List Int} (h : Kind.int.Own e w ok base v l) : Kind.int.Own e w ok' base v l := by
 obtain ⟨xs, ho, hr⟩ := h
 exact ⟨xs, ho, hr.imp fun _ _ h => h⟩
def S33v (x : S33) (v : Value) : List Value := [.int .i64 x.f0, .int .i64 x.f1, .int .i64 x.f2, .int .i64 x.f3, .string x.f4, .string x.f5, v]
def markK (base : Nat) : Kind (S33 × Option (Nat × Nat)) where
 sz := 7
 K := fun w ok x cs => (x.2 = none ∧ boxK.K w (fun k => ok k ∧ k < base) x.1 cs) ∨ ∃ p v, x.2 = some p ∧ cs = S33v x.1 v ∧ v.oneCell' = true ∧ Kind.int.Own 3 w (fun _ => False) base v x.1.f6 ∧ ∀ k, v.ownBlock = some k → ok k ∧ p.1 ≤ k ∧ k < p.2
 len := by
  rintro w ok x cs (⟨-, h⟩ | ⟨p, v, -, rfl, -⟩)
  ·exact boxK.len h
  ·rfl
 one := by
  rintro w ok x cs (⟨-, h⟩ | ⟨p, v, -, rfl, h1, -⟩) u hu
  ·exact boxK.one h u hu
  ·simp only [S33v, List.mem_cons, List.not_mem_nil, or_false] at hu
   rcases hu with rfl | rfl | rfl | rfl | rfl | rfl | rfl <;> first | rfl | exact h1
 weaken := by
  rintro w ok ok' x cs hok (⟨h0, h⟩ | ⟨p, v, h0, rfl, h1, h2, h3⟩)
  ·exact .inl ⟨h0, boxK.weaken (fun k hk => ⟨hok k hk.1, hk.2⟩) h⟩
  ·exact .inr ⟨p, v, h0, rfl, h1, h2, fun k hk => ⟨hok k (h3 k hk).1, (h3 k hk).2⟩⟩
 bound := by
  rintro w ok x cs (⟨h0, h⟩ | ⟨p, v, h0, rfl, h1, h2, h3⟩)
  ·exact .inl ⟨h0, boxK.weaken (fun k hk => ⟨⟨hk.1.1, hk.2⟩, hk.1.2⟩) (boxK.bound h)⟩
  ·exact .inr ⟨p, v, h0, rfl, h1, h2, fun k hk => ⟨⟨(h3 k hk).1, (h2.lt k hk).2⟩, (h3 k hk).2⟩⟩
 move := by
  rintro w w' ok x cs hm (⟨h0, h⟩ | ⟨p, v, h0, rfl, h1, h2, h3⟩)
  ·exact .inl ⟨h0, boxK.move (fun k hk => hm k hk.1) h⟩
  ·exact .inr ⟨p, v, h0, rfl, h1, h2.step (fun k hk => hm k (h3 k hk).1) (fun k hk => hk.elim), h3⟩
def marks (L : List S33) (I : List (Nat × Nat)) : List (S33 × Option (Nat × Nat)) := List.zip (L.take I.length) (I.map some) ++ (L.drop I.length).map (fun x => (x, none))
theorem marks_length (L : List S33) (I : List (Nat × Nat)) (h : I.length ≤ L.length) : (marks L I).length = L.length := by unfold marks; simp; omega
theorem marks_at {L : List S33} {I : List (Nat × Nat)} {x : S33} (h : L[I.length]? = some x) : (marks L I)[I.length]? = some (x, none) := by
 have hi := (List.getElem?_eq_some_iff.1 h).1
 unfold marks
 rw [List.getElem?_append_right (by simp; omega)]
 have e : I.length - (List.zip (L.take I.length) (I.map some)).length = 0 := by simp; omega
 rw [e, List.getElem?_map, List.getElem?_drop, Nat.add_zero, h]
 rfl
theorem marks_set {L : List S33} {I : List (Nat × Nat)} {x : S33} (p : Nat × Nat) (h : L[I.length]? = some x) : (marks L I).set I.length (x, some p) = marks L (I ++ [p]) := by
 obtain ⟨hi, rfl⟩ := List.getElem?_eq_some_iff.1 h
 unfold marks
 have e : (List.zip (L.take I.length) (I.map some)).length = I.length := by simp; omega
 rw [List.set_append_right _ _ (by omega), e, Nat.sub_self, List.drop_eq_getElem_cons hi, List.length_append, List.length_singleton, List.take_succ_eq_append_getElem hi, List.map_cons, List.set_cons_zero, List.map_append, List.zip_append (by simp; omega), List.append_assoc]
 rfl
theorem marks_zero (L : List S33) : marks L [] = L.map fun x => (x, none) := by unfold marks; simp
theorem marks_all {L : List S33} {I : List (Nat × Nat)} (h : I.length = L.length) {j : Nat} {x : S33} (hx : L[j]? = some x) : ∃ p, I[j]? = some p ∧ (marks L I)[j]? = some (x, some p) := by
 have hj := (List.getElem?_eq_some_iff.1 hx).1
 obtain ⟨p, hp⟩ : ∃ p, I[j]? = some p := ⟨_, List.getElem?_eq_getElem (by omega)⟩
 refine ⟨p, hp, ?_⟩
 unfold marks
 rw [h, List.take_length, List.drop_length, List.map_nil, List.append_nil, List.getElem?_zip_eq_some]
 exact ⟨hx, by rw [List.getElem?_map, hp]; rfl⟩
def Chain (I : List (Nat × Nat)) (n : Nat) : Prop := (∀ (a b : Nat) p q, a < b → I[a]? = some p → I[b]? = some q → p.2 ≤ q.1) ∧ ∀ (a : Nat) p, I[a]? = some p → p.2 ≤ n
theorem Chain.nil (n : Nat) : Chain [] n := ⟨fun a b p q _ h => by simp at h, fun a p h => by simp at h⟩
theorem Chain.snoc {I : List (Nat × Nat)} {n m : Nat} (h : Chain I n) (hm : n ≤ m) : Chain (I ++ [(n, m)]) m := by
 refine ⟨fun a b p q hab hp hq => ?_, fun a p hp => ?_⟩
 ·have hb : b < I.length + 1 := by have := (List.getElem?_eq_some_iff.1 hq).1; simpa using this
  rw [List.getElem?_append_left (by omega)] at hp
  rcases Nat.lt_or_ge b I.length with h1 | h1
  ·rw [List.getElem?_append_left h1] at hq
   exact h.1 a b p q hab hp hq
  ·rw [List.getElem?_append_right h1, show b - I.length = 0 by omega] at hq
   have hq' : (n, m) = q := by simpa using hq
   subst hq'
   exact h.2 a p hp
 ·rcases Nat.lt_or_ge a I.length with h1 | h1
  ·rw [List.getElem?_append_left h1] at hp
   exact Nat.le_trans (h.2 a p hp) hm
  ·have ha : a < I.length + 1 := by have := (List.getElem?_eq_some_iff.1 hp).1; simpa using this
   rw [List.getElem?_append_right h1, show a - I.length = 0 by omega] at hp
   have hp' : (n, m) = p := by simpa using hp
   subst hp'
   exact Nat.le_refl _
def whose (I : List (Nat × Nat)) (k : Nat) : Nat := (I.takeWhile fun p => decide (p.2 ≤ k)).length
theorem takeWhile_len {α : Type} (f : α → Bool) : ∀ (l : List α) (j : Nat) (p : α), (∀ a q, a < j → l[a]? = some q → f q = true) → l[j]? = some p → f p = false → (l.takeWhile f).length = j
 | [], j, p, _, h, _ => by simp at h
 | y :: r, 0, p, _, h, hf => by
  have : y = p := by simpa using h
  subst this
  rw [List.takeWhile_cons_of_neg (by rw [hf]; simp)]
  rfl
 | y :: r, j + 1, p, ha, h, hf => by
  rw [List.takeWhile_cons_of_pos (ha 0 y (by omega) rfl), List.length_cons, takeWhile_len f r j p (fun a q hq hr => ha (a + 1) q (by omega) (by simpa using hr)) (by simpa using h) hf]
theorem whose_at {I : List (Nat × Nat)} {n j k : Nat} {p : Nat × Nat} (h : Chain I n) (hp : I[j]? = some p) (h1 : p.1 ≤ k) (h2 : k < p.2) : whose I k = j :=
 takeWhile_len _ I j p (fun a q ha hq => by have := h.1 a j q p ha hq hp; simp; omega) hp (by simp; omega)
theorem own_S {w : World} {base g c n : Nat} {l : List S33} {I : List (Nat × Nat)} (h : (markK base).RowAt 33 w (fun k => k ≠ g) g c (marks l I)) (hI : I.length = l.length) (hc : Chain I n) (hg : base ≤ g) :
  Kd.S k33 33 w base (fun _ => True) (.slice (some ⟨g, 0, none⟩) l.length c) l := by
 have ho := h.own hg
 rw [marks_length _ _ (by omega)] at ho
 obtain ⟨inner, ho, hr⟩ := ho
 rw [marks_length _ _ (by omega)] at ho
 refine ⟨whose I, fun k _ => trivial, inner, by rw [List.length_zipIdx]; exact ho, by have := hr.1; rw [marks_length _ _ (by omega)] at this; rw [List.length_zipIdx]; exact this, fun j p hj => ?_⟩
 obtain ⟨hjl, hj2⟩ := List.getElem?_eq_some_iff.1 hj
 have hx : l[j]? = some p.1 ∧ p.2 = j := by
  rw [List.getElem?_zipIdx, Nat.zero_add] at hj
  cases hq : l[j]? with
  | none => rw [hq] at hj; cases hj
  | some y =>
   rw [hq] at hj
   injection hj with hj
   subst hj
   exact ⟨rfl, rfl⟩
 obtain ⟨q, hq, hm⟩ := marks_all hI hx.1
 rcases hr.2 j _ hm with ⟨h0, -⟩ | ⟨p', v, h0, hcs, -, h2, h3⟩
 ·cases h0
 ·have e : q = p' := by injection h0
  subst e
  have hcs' : ((inner.drop (j * 7)).take 7) = S33v p.1 v := hcs
  show k33.M w base _ p.1 ((inner.drop (j * 7)).take 7)
  rw [hcs']
  refine k33_mkM _ _ _ _ (R_ints h2 fun k hk => ?_)
  obtain ⟨a1, a2, a3⟩ := h3 k hk
  refine ⟨⟨trivial, ?_⟩, ?_⟩
  ·intro e
   have : k = g := by simpa [Value.ownBlock] using e
   exact a1 this
  ·rw [hx.2]
   exact whose_at hc hq a2 a3
theorem fill_own_any (A : Option Addr) (n c : Nat) (l : List S33) (w : World) (hr : k33.C w A n l) (hn : n ≤ 1000000000000) (hsz : ∀ y ∈ l, y.f6.length ≤ 17592186044416) :
    Calls Try.prog 32 #[.slice A n c] w fun e w' => ∃ v, e = .returned v ∧ Kd.S k33 33 w' w.heap.size (fun _ => True) v l ∧ Below w.heap.size w w' := by
  have HR := hide (rd_boxes hr)
  have HSZ := hide hsz
  have hm : maxLen = 9223372036854775807 := rfl
  have HM := hide hm
  clear hr hsz hm
  go_enter Try.func32, Try.ntmps32
  go_upto_region 2 with (go_at_call 58; refine (Clone_box A n c l (fun _ => True) _ HR.out hn).mono ?_; rintro e w1 ⟨v1, rfl, q1, q2⟩; obtain ⟨A1, c1, rfl, -, -, -, -, -⟩ := Kind.Own.form q1; have HO1 := hide q1; have Q2 := hide q2; clear q1 q2)
  have hln : l.length ≤ 1000000000000 := by have := HR.out.1; omega
  have HLN := hide hln
  rcases Nat.eq_zero_or_pos l.length with h0 | h0
  · have hl : l = [] := List.eq_nil_of_length_eq_zero h0
    subst hl
    clear h0 hln
    go_wp2_with fail
    go_loopw [4, 9] (fun _ t9 wr => t9 = .int .i64 0 ∧ w1 = wr) (fun _ _ _ => 0)
    case atStart => exact ⟨rfl, rfl⟩
    case round =>
      obtain ⟨rfl, rfl⟩ := hrel
      go_wp2_with fail
      go_ret
      obtain ⟨xs, ho, hr⟩ := HO1.out
      exact ⟨_, rfl, ⟨fun _ => 0, fun _ _ => trivial, xs, ho, hr.1, fun j p hj => by simp at hj⟩, Q2.out⟩
  obtain ⟨g1, rfl, -, hg1, hrow⟩ := HO1.out.rowAt h0
  have HG1 := hide hg1
  have hm0 : (markK w.heap.size).RowAt 33 w1 (fun k => k ≠ g1) g1 c1 (marks l []) := by
    rw [marks_zero]
    obtain ⟨cur, e1, e2, e3, e4, e5, e6⟩ := hrow
    refine ⟨cur, e1, e2, by simpa using e3, e4, by rw [List.length_map]; exact e5, fun i x hx => ?_⟩
    rw [List.getElem?_map] at hx
    cases hy : l[i]? with
    | none => rw [hy] at hx; cases hx
    | some y =>
      rw [hy] at hx
      injection hx with hx
      subst hx
      have := e6 i y hy
      rw [List.length_map]
      exact .inl ⟨rfl, boxK.weaken (fun k hk => ⟨by omega, hk.2⟩) this⟩
  have HM0 := hide hm0
  clear hrow hm0 HO1 hg1
  go_wp2_with fail
  go_loopw [4, 9] (fun _ t9 wr => ∃ I : List (Nat × Nat), t9 = .int .i64 I.length ∧ I.length ≤ l.length ∧ Hid ((markK w.heap.size).RowAt 33 wr (fun k => k ≠ g1) g1 c1 (marks l I)) ∧ Hid (Chain I wr.heap.size) ∧ Hid (Below w.heap.size w wr)) (fun _ t9 _ => l.length - (intOf t9).toNat)
  case atStart => exact ⟨[], rfl, Nat.zero_le _, HM0, hide (Chain.nil _), Q2⟩
  case round =>
    obtain ⟨I, rfl, hi, HRW, HC, HB⟩ := hrel
    obtain ⟨i, hiI⟩ : ∃ i, i = I.length := ⟨_, rfl⟩
    rw [← hiI] at hi ⊢
    have HII := hide hiI
    clear hiI
    by_cases hlt : i < l.length
    · obtain ⟨x, hx⟩ : ∃ x, l[i]? = some x := ⟨_, List.getElem?_eq_getElem hlt⟩
      have hb1 := HSZ.out x (List.mem_of_getElem? hx)
      have hx' := hx
      rw [HII.out] at hx'
      have hmk := marks_at hx'
      obtain ⟨cs, hcs, hcell⟩ := HRW.out.cells' hmk
      rcases hcs with ⟨-, A5, c5, rfl, hl5, hr5⟩ | ⟨p, v, h, -⟩
      rotate_left
      · cases h
      rw [← HII.out] at hcell
      have z4 : wr.cell? ⟨g1, i * 7 + 6, none⟩ = some (.slice A5 x.f6.length c5) := hcell 6 _ rfl
      have HR5 := hide hr5
      have HX := hide hx'
      have zf := HRW.out.frozen (i * 7 + 6)
      clear hx hx' hmk hcell hr5
      go_wp2_with (go_at_call 59
                   refine (Clone_int A5 x.f6.length c5 x.f6 _ _ HR5.out hb1).mono ?_
                   rintro e w2 ⟨v2, rfl, q1, q2⟩
                   have HRW2 := hide (HRW.out.below q2)
                   have zf2 := HRW2.out.frozen (i * 7 + 6)
                   have z42 := cell_stays q2 z4
                   obtain ⟨A6, c6, rfl, hl6, hc6, -, -, -⟩ := Kind.Own.form q1
                   have HO2 := hide q1
                   have Q3 := hide q2
                   clear q1 q2 hc6 hl6)
      have hg1lt : g1 < wr.heap.size := HRW.out.lt
      have hwb : w.heap.size ≤ wr.heap.size := HB.out.size
      have hrow2 : (markK w.heap.size).RowAt 33 (w2.setCell ⟨g1, i * 7 + 6, none⟩ (.slice A6 x.f6.length c6)) (fun k => k ≠ g1) g1 c1 (marks l (I ++ [(wr.heap.size, w2.heap.size)])) := by
        rw [← marks_set (wr.heap.size, w2.heap.size) HX.out]
        have hil : I.length < (marks l I).length := by rw [marks_length _ _ (by have := HII.out; omega)]; have := HII.out; omega
        have hix : (marks l I)[I.length] = (x, none) := (List.getElem?_eq_some_iff.1 (marks_at HX.out)).2
        have := HRW2.out.field (i := I.length) (j := 6) (v := .slice A6 x.f6.length c6) (y := (x, some (wr.heap.size, w2.heap.size))) hil (show 6 < 7 by omega) (fun cs hcs => ?_) (fun k hk => hk)
        · rw [HII.out]; exact this
        · rw [hix] at hcs
          rcases hcs with ⟨-, A7, c7, rfl, -, -⟩ | ⟨p, v, h, -⟩
          · refine .inr ⟨_, .slice A6 x.f6.length c6, rfl, rfl, rfl, (own_int HO2.out).lower hwb, fun k hk => ?_⟩
            have := HO2.out.lt k hk
            exact ⟨by omega, this.1, this.2⟩
          · cases h
      have hszz : (w2.setCell ⟨g1, i * 7 + 6, none⟩ (.slice A6 x.f6.length c6)).heap.size = w2.heap.size := by simp [World.setCell]
      have hch : Chain (I ++ [(wr.heap.size, w2.heap.size)]) (w2.setCell ⟨g1, i * 7 + 6, none⟩ (.slice A6 x.f6.length c6)).heap.size := by rw [hszz]; exact HC.out.snoc Q3.out.size
      have hbb : Below w.heap.size w (w2.setCell ⟨g1, i * 7 + 6, none⟩ (.slice A6 x.f6.length c6)) := Below.setCell (below_self HB.out Q3.out) HG1.out _
      have HROW2 := hide hrow2
      have HCH := hide hch
      have HBB := hide hbb
      have hlen : (I ++ [(wr.heap.size, w2.heap.size)]).length = i + 1 := by rw [HII.out]; simp
      have HLEN := hide hlen
      clear hrow2 hch hbb hszz hlen
      go_wp2_with fail
      go_roundw
      case rel => exact ⟨_, by rw [HLEN.out]; go_num, by rw [HLEN.out]; omega, HROW2, HCH, HBB⟩
      case measure => simp [intOf]; omega
    · have hin : I.length = l.length := by have := HII.out; omega
      have hsS := own_S HRW.out hin HC.out HG1.out
      have HS := hide hsS
      clear hsS hin
      go_wp2_with fail
      go_ret
      exact ⟨_, rfl, HS.out, HB.out⟩
end Go.Proofs.YteadghhmoggjnaaB
end
section
namespace Go.Proofs.YteadghhmoggjnaaB
open Go.RowKit
open Yteadghhmoggjnaa.Q (S33 k33 z33 k33_open k33_mk k33_mkM)
open YteadghhmoggjnaaW.PrintWords (Kd ReadsRow)
set_option maxHeartbeats 1600000
def goodB (c : UInt8) : Bool := decide (33 ≤ c.toNat) && decide (c.toNat ≤ 126)
def badI (c : Int) : Bool := decide (c < 33) || decide (126 < c)
theorem badI_good {c : UInt8} (h : goodB c = true) : badI (c.toNat : Int) = false := by
 unfold goodB at h; unfold badI
 rw [Bool.eq_false_iff]
 simp at h ⊢
 omega
theorem bad_of_good {c : UInt8} (h : goodB c = false) : badI (c.toNat : Int) = true := by
 unfold goodB at h; unfold badI
 simp at h ⊢
 omega
theorem goodB_high {c : UInt8} (h : 128 ≤ c.toNat) : goodB c = false := by
 unfold goodB
 simp
 omega
theorem badI_high {c : Nat} (h : 128 ≤ c) : badI (c : Int) = true := by
 unfold badI
 simp
 omega
theorem all_take_succ (s : ByteArray) (k : Nat) (h : k < s.size) : (s.data.toList.take (k + 1)).all goodB = ((s.data.toList.take k).all goodB && goodB (s[k]'h)) := by
 rw [List.take_succ_eq_append_getElem (by simpa using h), List.all_append]
 simp
 rfl
theorem all_of_take (s : ByteArray) (k : Nat) (h : k < s.size) (hb : goodB (s[k]'h) = false) : s.data.toList.all goodB = false := by
 rw [Bool.eq_false_iff]
 intro ha
 rw [List.all_eq_true] at ha
 have := ha (s[k]'h) (by
  have : s[k]'h = s.data.toList[k]'(by simpa using h) := rfl
  rw [this]; exact List.getElem_mem _)
 rw [hb] at this; cases this
theorem colour1_any (c : Int) (w : World) : Calls Try.prog 83 #[.int .i32 c] w fun e w' => e = .returned (.bool (badI c)) ∧ w = w' := by
 go_enter Try.func83, Try.ntmps83
 go_wp2
 all_goals go_ret
 all_goals refine ⟨ret_bool ?_, rfl⟩
 all_goals unfold badI; simp_all
theorem named1_any (c : Int) (w : World) : Calls Try.prog 84 #[.int .i32 c] w fun e w' => e = .returned (.bool (badI c)) ∧ w = w' := by
 go_enter Try.func84, Try.ntmps84
 go_wp2
 all_goals go_ret
 all_goals refine ⟨ret_bool ?_, rfl⟩
 all_goals unfold badI; simp_all
section
variable (gf : Nat) (eg : ∀ args w, (callFunc gf args).run Try.prog w = .ok (.enter gf args) w) (hp : ∀ (c : Int) (W : World), Calls Try.prog gf #[.int .i32 c] W fun e W' => e = .returned (.bool (badI c)) ∧ W = W')
include eg hp
theorem indexFunc_bad (s : ByteArray) (w : World) (hs : s.size ≤ 9223372036854775807) :
  Calls Try.prog 90 #[.string s, .func (.func gf) #[] #[], .bool true] w fun e w' => ∃ r : Int, e = .returned (.int .i64 r) ∧ decide (0 ≤ r) = !(s.data.toList.all goodB) ∧ Below w.heap.size w w' := by
 have HP := hide hp
 clear hp
 go_enter Try.func90, Try.ntmps90
 go_wp2
 go_loopw [] (fun wr => ∃ k : Nat, k ≤ s.size ∧ wr = w.iter s k ∧ (s.data.toList.take k).all goodB = true) (fun wr => s.size - wr.iterPos w.heap.size)
 case atStart => exact ⟨0, Nat.zero_le _, rfl, rfl⟩
 case round =>
  obtain ⟨k, hk, rfl, hg⟩ := hrel
  have HG := hide hg
  clear hg
  by_cases hlt : k < s.size
  ·have hn := run_next_any (P := Try.prog) w s k 0 hlt
   by_cases ha : (s[k]'hlt).toNat < 128
   ·rw [decode_ascii s k hlt ha] at hn
    by_cases hgd : goodB (s[k]'hlt) = true
    ·have hbad := badI_good hgd
     go_wp2_with (go_at_fn gf; refine (HP.out _ _).mono ?_; rintro e w' ⟨rfl, rfl⟩)
     go_roundw
     case rel => exact ⟨k + 1, by omega, rfl, by rw [all_take_succ s k hlt, HG.out, hgd]; rfl⟩
     case measure => simp; omega
    ·have hgf : goodB (s[k]'hlt) = false := by simpa using hgd
     have hbad := bad_of_good hgf
     go_wp2_with (go_at_fn gf; refine (HP.out _ _).mono ?_; rintro e w' ⟨rfl, rfl⟩)
     go_ret
     exact ⟨_, rfl, by rw [all_of_take s k hlt hgf]; simp, (Below.refl _ _).alloc (Nat.le_refl _) _⟩
   ·have hgf := goodB_high (c := s[k]'hlt) (by omega)
    have hbad := badI_high (decode_high s k hlt (by omega)).1
    go_wp2_with (go_at_fn gf; refine (HP.out _ _).mono ?_; rintro e w' ⟨rfl, rfl⟩)
    go_ret
    exact ⟨_, rfl, by rw [all_of_take s k hlt hgf]; simp, (Below.refl _ _).alloc (Nat.le_refl _) _⟩
  ·have hn := run_next_end (P := Try.prog) w s k 0 hlt
   go_wp2
   go_ret
   refine ⟨_, rfl, ?_, ?_⟩
   ·have : k = s.size := by omega
    have h := HG.out
    rw [List.take_of_length_le (by simp; omega)] at h
    rw [h]; rfl
   ·exact (Below.refl _ _).alloc (Nat.le_refl _) _
theorem IndexFunc_bad (s : ByteArray) (w : World) (hs : s.size ≤ 9223372036854775807) :
  Calls Try.prog 88 #[.string s, .func (.func gf) #[] #[]] w fun e w' => ∃ r : Int, e = .returned (.int .i64 r) ∧ decide (0 ≤ r) = !(s.data.toList.all goodB) ∧ Below w.heap.size w w' := by
 have H := hide (indexFunc_bad gf eg hp s w hs)
 clear hp
 go_enter Try.func88, Try.ntmps88
 go_wp2_with (go_at_call 90; refine (H.out).mono ?_; rintro e w' ⟨r, rfl, h1, h2⟩; have H1 := hide h1; clear h1)
 go_ret
 exact ⟨r, rfl, H1.out, h2⟩
theorem ContainsFunc_bad (s : ByteArray) (w : World) (hs : s.size ≤ 9223372036854775807) :
  Calls Try.prog 82 #[.string s, .func (.func gf) #[] #[]] w fun e w' => e = .returned (.bool !(s.data.toList.all goodB)) ∧ Below w.heap.size w w' := by
 have H := hide (IndexFunc_bad gf eg hp s w hs)
 clear hp
 go_enter Try.func82, Try.ntmps82
 go_wp2_with (go_at_call 88; refine (H.out).mono ?_; rintro e w' ⟨r, rfl, h1, h2⟩; have H1 := hide h1; clear h1)
 go_ret
 exact ⟨by first | rfl | (rw [H1.out]; rfl), h2⟩
end
def colourB (s : ByteArray) : Bool := decide (s.size ≤ 20) && s.data.toList.all goodB
def namedB (s : ByteArray) : Bool := decide (1 ≤ s.size) && (decide (s.size ≤ 10) && s.data.toList.all goodB)
theorem colour_any (s : ByteArray) (w : World) : Calls Try.prog 72 #[.string s] w fun e w' => e = .returned (.bool (colourB s)) ∧ Below w.heap.size w w' := by
 have hnb : Hid (colourB s = (decide (s.size ≤ 20) && s.data.toList.all goodB)) := hide rfl
 by_cases h2 : s.size ≤ 20
 ·go_enter Try.func72, Try.ntmps72
  go_wp2_with (go_at_call 82; refine (ContainsFunc_bad 83 (fun _ _ => rfl) (fun c W => colour1_any c W) s w (by omega)).mono ?_; rintro e w' ⟨rfl, h3⟩)
  go_ret
  exact ⟨by rw [hnb.out]; simp [h2], h3⟩
 ·go_enter Try.func72, Try.ntmps72
  go_wp2_with fail
  go_ret
  exact ⟨by rw [hnb.out]; simp [h2], Below.refl _ _⟩
theorem named_any (s : ByteArray) (w : World) : Calls Try.prog 73 #[.string s] w fun e w' => e = .returned (.bool (namedB s)) ∧ Below w.heap.size w w' := by
 have hnb : Hid (namedB s = (decide (1 ≤ s.size) && (decide (s.size ≤ 10) && s.data.toList.all goodB))) := hide rfl
 by_cases h1 : 1 ≤ s.size
 ·by_cases h2 : s.size ≤ 10
  ·go_enter Try.func73, Try.ntmps73
   go_wp2_with (go_at_call 82; refine (ContainsFunc_bad 84 (fun _ _ => rfl) (fun c W => named1_any c W) s w (by omega)).mono ?_; rintro e w' ⟨rfl, h3⟩)
   go_ret
   exact ⟨by rw [hnb.out]; simp [h1, h2], h3⟩
  ·go_enter Try.func73, Try.ntmps73
   go_wp2_with fail
   go_ret
   exact ⟨by rw [hnb.out]; simp [h1, h2], Below.refl _ _⟩
 ·go_enter Try.func73, Try.ntmps73
  go_wp2_with fail
  go_ret
  exact ⟨by rw [hnb.out]; simp [h1], Below.refl _ _⟩
def allI (p : Int → Bool) (l : List Int) : Bool := l.all fun n => !(p n)
theorem take_alli (p : Int → Bool) (l : List Int) (k : Nat) (h : k < l.length) : allI p (l.take (k + 1)) = (allI p (l.take k) && !(p l[k])) := by
 unfold allI
 rw [List.take_succ_eq_append_getElem h, List.all_append]
 simp
theorem hit_alli (p : Int → Bool) (l : List Int) (k : Nat) (h : k < l.length) (hb : p l[k] = true) : allI p l = false := by
 unfold allI
 rw [Bool.eq_false_iff]
 intro ha
 have := List.all_eq_true.1 ha l[k] (List.getElem_mem _)
 rw [hb] at this
 cases this
theorem rd_int {w : World} {ok : Nat → Prop} {A : Option Addr} {n i : Nat} {l : List Int} {x : Int} (h : Kind.int.Rd w ok A n l) (hx : l[i]? = some x) :
  ∃ b off, A = some ⟨b, off, none⟩ ∧ w.cell? ⟨b, off + i, none⟩ = some (.int .i64 x) := by
 obtain ⟨hi, rfl⟩ := List.getElem?_eq_some_iff.1 hx
 obtain ⟨b, off, cs, e, _, hK, hc⟩ := h.at_ hi
 subst hK
 have h0 := hc 0 _ rfl
 rw [show off + i * Kind.int.sz + 0 = off + i from by show off + i * 1 + 0 = off + i; omega] at h0
 exact ⟨b, off, e, h0⟩
section
variable (p : Int → Bool) (gf : Nat) (eg : ∀ args w, (callFunc gf args).run Try.prog w = .ok (.enter gf args) w) (hp : ∀ (c : Int) (W : World), Calls Try.prog gf #[.int .i64 c] W fun e W' => e = .returned (.bool (p c)) ∧ W = W')
include eg hp
theorem IndexFunc_int (A : Option Addr) (n c : Nat) (l : List Int) (ok : Nat → Prop) (w : World) (hr : Kind.int.Rd w ok A n l) (hn : n ≤ 9223372036854775807) :
  Calls Try.prog 76 #[.slice A n c, .func (.func gf) #[] #[]] w fun e w' => ∃ r : Int, e = .returned (.int .i64 r) ∧ decide (0 ≤ r) = !(allI p l) ∧ w = w' := by
 have HR := hide hr
 have hln : l.length = n := hr.1
 have HLN := hide hln
 have HP := hide hp
 clear hr hln hp
 go_enter Try.func76, Try.ntmps76
 go_wp2_with fail
 go_loop [5, 8] (fun _ t8 => ∃ k : Nat, t8 = .int .i64 k ∧ k ≤ n ∧ Hid (allI p (l.take k) = true)) (fun _ t8 => n - (intOf t8).toNat)
 case atStart => exact ⟨0, rfl, Nat.zero_le _, hide rfl⟩
 case round =>
  obtain ⟨k, rfl, hk, HG⟩ := hrel
  by_cases hlt : k < n
  ·have hkl : k < l.length := by have := HLN.out; omega
   have hts := take_alli p l k hkl
   rw [HG.out] at hts
   obtain ⟨x, hx⟩ : ∃ x, x = l[k] := ⟨_, rfl⟩
   obtain ⟨b, off, rfl, z0⟩ := rd_int HR.out (x := x) (by rw [hx]; exact List.getElem?_eq_getElem hkl)
   have hhit := hit_alli p l k hkl
   rw [← hx] at hts hhit
   have HTS := hide hts
   have HHIT := hide hhit
   clear hts hhit hx
   cases hb : p x with
   | true =>
    have HB := hide hb
    clear hb
    go_wp2_with (go_at_fn gf; refine (HP.out x _).mono ?_; rw [HB.out]; rintro e w2 ⟨rfl, rfl⟩)
    go_ret
    exact ⟨(k : Int), rfl, by rw [HHIT.out HB.out]; simp, rfl⟩
   | false =>
    have HB := hide hb
    clear hb
    go_wp2_with (go_at_fn gf; refine (HP.out x _).mono ?_; rw [HB.out]; rintro e w2 ⟨rfl, rfl⟩)
    go_round
    case rel => exact ⟨k + 1, by go_num, by omega, hide (by rw [HTS.out, HB.out]; rfl)⟩
    case measure => simp [intOf]; omega
  ·have hg := HG.out
   rw [List.take_of_length_le (by have := HLN.out; omega)] at hg
   have HA := hide hg
   clear hg
   go_wp2_with fail
   go_ret
   exact ⟨-1, rfl, by rw [HA.out]; rfl, rfl⟩
theorem ContainsFunc_int (A : Option Addr) (n c : Nat) (l : List Int) (ok : Nat → Prop) (w : World) (hr : Kind.int.Rd w ok A n l) (hn : n ≤ 9223372036854775807) :
  Calls Try.prog 56 #[.slice A n c, .func (.func gf) #[] #[]] w fun e w' => e = .returned (.bool !(allI p l)) ∧ w = w' := by
 have H := hide (IndexFunc_int p gf eg hp A n c l ok w hr hn)
 clear hr hp
 go_enter Try.func56, Try.ntmps56
 go_wp2_with (go_at_call 76; refine (H.out).mono ?_; rintro e w' ⟨r, rfl, h1, rfl⟩; have H1 := hide h1; clear h1)
 go_ret
 exact ⟨ret_bool H1.out, rfl⟩
end
def farV (n : Int) : Bool := decide (n < -1000000) || decide (1000000 < n)
def farL (n : Int) : Bool := decide (n < 0) || decide (10000000 < n)
theorem Valid1_any (c : Int) (w : World) : Calls Try.prog 74 #[.int .i64 c] w fun e w' => e = .returned (.bool (farV c)) ∧ w = w' := by
 go_enter Try.func74, Try.ntmps74
 go_wp2
 all_goals go_ret
 all_goals refine ⟨ret_bool ?_, rfl⟩
 all_goals unfold farV; simp_all
theorem check2_any (c : Int) (w : World) : Calls Try.prog 57 #[.int .i64 c] w fun e w' => e = .returned (.bool (farL c)) ∧ w = w' := by
 go_enter Try.func57, Try.ntmps57
 go_wp2
 all_goals go_ret
 all_goals refine ⟨ret_bool ?_, rfl⟩
 all_goals unfold farL; simp_all
def strokeB (s : ByteArray) : Bool := (s.data.toList == [108]) || (s.data.toList == [99]) || (s.data.toList == [101]) || (s.data.toList == [97]) || (s.data.toList == [126])
theorem IndexByte_any (s : ByteArray) (b : UInt8) (w : World) : Calls Try.prog 91 #[.string s, .int .u8 (b.toNat : Int)] w fun e w' => e = .returned (.int .i64 (Lib.indexByte s.data.toList b)) ∧ w = w' := by
 have hd : (callFunc 95 #[.string s, .int .u8 (b.toNat : Int)]).run Try.prog w = ((Extern.BytealgIndexByte.indexByte #[.string s, .int .u8 (b.toNat : Int)]).run Try.prog w).andThen fun v w' => .ok (.value v) w' :=
  run_callFunc_extern Try.func95 (by kernel_rfl) (by kernel_rfl) (by kernel_rfl) (by kernel_rfl) _ _
 rw [Lib.run_indexByteString] at hd
 have hb : UInt8.ofNat (b.toNat) = b := by simp
 simp only [Int.toNat_natCast, hb] at hd
 go_enter Try.func91, Try.ntmps91
 go_wp2_with fail
 go_ret
 exact ⟨rfl, rfl⟩
end Go.Proofs.YteadghhmoggjnaaB
end
end
