import Derived.KernelRfl
import Derived.Test.YteadghhmoggjnaaFR9
import Derived.Test.YteadghhmoggjnaaFR5
import Derived.Test.YteadghhmoggjnaaFR4
set_option linter.unusedVariables false
set_option linter.unusedSimpArgs false
section
section
namespace Go.Proofs.YteadghhmoggjnaaB
open Go.RowKit
open Go.Proofs.Yteadghhmoggjnaa.Q (S33 k33 z33 k33_open k33_mk k33_mkM k33_openF)
open Go.Proofs.YteadghhmoggjnaaW.PrintWords (Kd ReadsRow)
set_option maxHeartbeats 1600000
set_option maxRecDepth 1000000
def setBlock (w : World) (b : Nat) (o : Obj) : World := { w with heap := w.heap.setIfInBounds b o }
theorem key_u8 (w : World) (e : Bool) (k : Int) : (Instr.checkKey e 10000 5 (.int .u8 k)).run Try.prog w = .ok () w :=
 MapKept.run_checkKey (d := .int .u8) (k := .int .u8 k) Try.underlying5 (show MapKept.IsKey (.int .u8) (.int .u8 k) from rfl) e 9999
theorem find_u8 (w : World) (k : Int) (l : List MapEntry) {r : Option (Nat × Value)} (hn : Instr.findNow (.int .u8) (.int .u8 k) l 0 = some r) : (Instr.findKey 5 (.int .u8 k) l).run Try.prog w = .ok r w := by
 simp only [Instr.findKey, Sem.run_bind, run_underlying Try.underlying5, Result.andThen, hn]
 rfl
theorem put_u8 {w : World} {b : Nat} {es : Array MapEntry} {clock : Nat} (hb : w.heap[b]? = some (.map es clock)) (k : Int) (v : Value) (hn : Instr.findNow (.int .u8) (.int .u8 k) es.toList 0 = some none) :
  (Instr.mapUpdate 60 (.map (some b)) (.int .u8 k) v).run Try.prog w = .ok () (setBlock w b (.map (es.push ⟨.int .u8 k, v, clock⟩) (clock + 1))) := by
 simp [Instr.mapUpdate, run_underlying Try.underlying60, MapKept.run_getObj_map hb, key_u8, find_u8 w k es.toList hn, MapKept.run_setObj_map _ hb, Result.andThen, setBlock]
theorem look_u8 {w : World} {b : Nat} {es : Array MapEntry} {clock : Nat} (hb : w.heap[b]? = some (.map es clock)) (k : Int) {r : Option (Nat × Value)} (hn : Instr.findNow (.int .u8) (.int .u8 k) es.toList 0 = some r) :
  (Instr.lookup 60 (.map (some b)) (.int .u8 k) true).run Try.prog w = .ok (match r with | some (_, v) => .tuple #[v, .bool true] | none => .tuple #[.nilFunc, .bool false]) w := by
 have hz : (zeroValue 59).run Try.prog w = .ok .nilFunc w := by kernel_rfl
 cases r with
 | none => simp [Instr.lookup, run_underlying Try.underlying60, MapKept.run_getObj_map hb, key_u8, find_u8 w k es.toList hn, Result.andThen, hz]
 | some p => simp [Instr.lookup, run_underlying Try.underlying60, MapKept.run_getObj_map hb, key_u8, find_u8 w k es.toList hn, Result.andThen]
theorem set_block {w : World} {b : Nat} {o o' : Obj} (h : w.heap[b]? = some o) : (setBlock w b o').heap[b]? = some o' := by
 have hlt := blk_lt h
 simp [setBlock, hlt]
theorem below_block {w w0 : World} {B b : Nat} (h : Below B w0 w) (hb : B ≤ b) (o : Obj) : Below B w0 (setBlock w b o) :=
 ⟨h.os, h.tape, h.output, by simpa [setBlock] using h.size, fun k hk => by
  rw [← h.block k hk]
  have : b ≠ k := by omega
  simp [setBlock, this]⟩
def waysE : Array MapEntry := #[⟨.int .u8 108, .func (.func 27) #[] #[], 0⟩, ⟨.int .u8 98, .func (.func 28) #[] #[], 1⟩, ⟨.int .u8 114, .func (.func 29) #[] #[], 2⟩, ⟨.int .u8 99, .func (.func 30) #[] #[], 3⟩]
theorem ways_made (w : World) : ∃ W1 W2 W3 W4, (Instr.mapUpdate 60 (.map (some w.heap.size)) (.int .u8 108) (.func (.func 27) #[] #[])).run Try.prog (w.alloc (.map #[] 0)) = .ok () W1 ∧
  (Instr.mapUpdate 60 (.map (some w.heap.size)) (.int .u8 98) (.func (.func 28) #[] #[])).run Try.prog W1 = .ok () W2 ∧
  (Instr.mapUpdate 60 (.map (some w.heap.size)) (.int .u8 114) (.func (.func 29) #[] #[])).run Try.prog W2 = .ok () W3 ∧
  (Instr.mapUpdate 60 (.map (some w.heap.size)) (.int .u8 99) (.func (.func 30) #[] #[])).run Try.prog W3 = .ok () W4 ∧ W4.heap[w.heap.size]? = some (.map waysE 4) ∧ Below w.heap.size w W4 := by
 have h0 := blk_new w (.map #[] 0)
 have h1 := set_block (o' := .map (#[].push ⟨.int .u8 108, .func (.func 27) #[] #[], 0⟩) (0 + 1)) h0
 have h2 := set_block (o' := .map ((#[].push ⟨.int .u8 108, .func (.func 27) #[] #[], 0⟩).push ⟨.int .u8 98, .func (.func 28) #[] #[], 0 + 1⟩) (0 + 1 + 1)) h1
 have h3 := set_block (o' := .map (((#[].push ⟨.int .u8 108, .func (.func 27) #[] #[], 0⟩).push ⟨.int .u8 98, .func (.func 28) #[] #[], 0 + 1⟩).push ⟨.int .u8 114, .func (.func 29) #[] #[], 0 + 1 + 1⟩) (0 + 1 + 1 + 1)) h2
 have r1 := put_u8 h0 108 (.func (.func 27) #[] #[]) rfl
 have r2 := put_u8 h1 98 (.func (.func 28) #[] #[]) rfl
 have r3 := put_u8 h2 114 (.func (.func 29) #[] #[]) rfl
 have r4 := put_u8 h3 99 (.func (.func 30) #[] #[]) rfl
 refine ⟨_, _, _, _, r1, r2, r3, r4, set_block h3, ?_⟩
 exact below_block (below_block (below_block (below_block (below_a _) (Nat.le_refl _) _) (Nat.le_refl _) _) (Nat.le_refl _) _) (Nat.le_refl _) _
theorem look_l {w : World} {b : Nat} (hb : w.heap[b]? = some (.map waysE 4)) : (Instr.lookup 60 (.map (some b)) (.int .u8 108) true).run Try.prog w = .ok (.tuple #[.func (.func 27) #[] #[], .bool true]) w := look_u8 hb 108 rfl
theorem look_b {w : World} {b : Nat} (hb : w.heap[b]? = some (.map waysE 4)) : (Instr.lookup 60 (.map (some b)) (.int .u8 98) true).run Try.prog w = .ok (.tuple #[.func (.func 28) #[] #[], .bool true]) w := look_u8 hb 98 rfl
theorem look_r {w : World} {b : Nat} (hb : w.heap[b]? = some (.map waysE 4)) : (Instr.lookup 60 (.map (some b)) (.int .u8 114) true).run Try.prog w = .ok (.tuple #[.func (.func 29) #[] #[], .bool true]) w := look_u8 hb 114 rfl
theorem look_c {w : World} {b : Nat} (hb : w.heap[b]? = some (.map waysE 4)) : (Instr.lookup 60 (.map (some b)) (.int .u8 99) true).run Try.prog w = .ok (.tuple #[.func (.func 30) #[] #[], .bool true]) w := look_u8 hb 99 rfl
theorem look_no {w : World} {b : Nat} (hb : w.heap[b]? = some (.map waysE 4)) (m : Int) (h1 : m ≠ 108) (h2 : m ≠ 98) (h3 : m ≠ 114) (h4 : m ≠ 99) : (Instr.lookup 60 (.map (some b)) (.int .u8 m) true).run Try.prog w = .ok (.tuple #[.nilFunc, .bool false]) w :=
 look_u8 hb m (r := none) (by
 have e1 : (m == 108) = false := beq_eq_false_iff_ne.2 h1
 have e2 : (m == 98) = false := beq_eq_false_iff_ne.2 h2
 have e3 : (m == 114) = false := beq_eq_false_iff_ne.2 h3
 have e4 : (m == 99) = false := beq_eq_false_iff_ne.2 h4
 simp [waysE, Instr.findNow, Instr.sameNow, e1, e2, e3, e4])
def grown (each more n : Int) (odd : Bool) (k : Nat) (x : S33) : S33 := ⟨x.f0, x.f1 + each + (if (odd && decide ((k : Int) < more)) || (!odd && decide (n - more ≤ (k : Int))) then 1 else 0), x.f2, x.f3, x.f4, x.f5, x.f6⟩
def spreadTo (l : List S33) (g : List Int) (each more : Int) (odd : Bool) : Nat → List S33
 | 0 => l
 | k + 1 => match g[k]? with
  | some i => (spreadTo l g each more odd k).modify i.toNat (grown each more g.length odd k)
  | none => spreadTo l g each more odd k
def spread (l : List S33) (lack : Int) (odd : Bool) : List S33 := spreadTo l (growL l) (lack / (growL l).length) (lack % (growL l).length) odd (growL l).length
def wayOf (mode lack : Int) : Int := if mode = 114 then most0 lack else if mode = 99 then most0 lack / 2 else 0
def adjL (l : List S33) (len mode : Int) (odd : Bool) : List S33 × Int × Int :=
 if checkI l [len] = 1 ∨ ¬ (mode = 108 ∨ mode = 98 ∨ mode = 114 ∨ mode = 99) then ([], 0, 1)
 else if checkI l [len] ≠ 0 then ([], 0, checkI l [len])
 else (if mode = 98 ∧ 0 < len - widthW l ∧ 0 < (growL l).length then spread l (len - widthW l) odd else l, wayOf mode (len - widthW l), 0)
theorem spreadTo_len (l : List S33) (g : List Int) (each more : Int) (odd : Bool) : ∀ k, (spreadTo l g each more odd k).length = l.length
 | 0 => rfl
 | k + 1 => by
  unfold spreadTo
  split
  ·rw [List.length_modify, spreadTo_len l g each more odd k]
  ·exact spreadTo_len l g each more odd k
theorem valid_n {x : S33} (h : validB x = true) : x.f6.length ≤ 40 := by
 unfold validB bareB at h
 simp only [Bool.and_eq_true] at h
 obtain ⟨-, h⟩ := h
 have z : ∀ {n : Nat}, (n == 0) = true → n ≤ 40 := fun h => by have := beq_iff_eq.1 h; omega
 split at h
 ·exact z (Bool.and_eq_true_iff.1 h).2
 ·split at h
  ·exact z (Bool.and_eq_true_iff.1 h).2
  ·split at h
   ·exact of_decide_eq_true (Bool.and_eq_true_iff.1 (Bool.and_eq_true_iff.1 h).1).2
   ·split at h
    ·exact z (Bool.and_eq_true_iff.1 (Bool.and_eq_true_iff.1 (Bool.and_eq_true_iff.1 h).1).1).2
    ·split at h
     ·exact z (Bool.and_eq_true_iff.1 (Bool.and_eq_true_iff.1 h).1).2
     ·cases h
theorem valid_w {x : S33} (h : validB x = true) : -1000000 ≤ x.f1 ∧ x.f1 ≤ 1000000 := by
 unfold validB at h
 simp only [Bool.and_eq_true] at h
 obtain ⟨h, -⟩ := h
 simp at h
 omega
theorem check_ok {l : List S33} {ns : List Int} (h : checkI l ns = 0) : l.all validB = true ∧ allI farL ns = true ∧ l.length ≤ 5000 := by
 unfold checkI at h
 cases h1 : l.all validB <;> cases h2 : allI farL ns <;> simp [h1, h2] at h ⊢
 omega
theorem width_foldl (l : List S33) (hv : l.all validB = true) : ∀ (k : Nat), k ≤ l.length → -1000000 * (k : Int) ≤ widthW (l.take k) ∧ widthW (l.take k) ≤ 1000000 * (k : Int) ∨ 5000000 < k
 | 0, _ => .inl (by simp [widthW])
 | k + 1, hk => by
  rcases width_foldl l hv k (by omega) with h | h
  ·by_cases hk5 : 5000000 < k + 1
   ·exact .inr hk5
   refine .inl ?_
   have hx : l[k]? = some l[k] := List.getElem?_eq_getElem (by omega)
   have hvx := valid_w (List.all_eq_true.1 hv l[k] (List.getElem_mem _))
   cases hc : counts l[k] with
   | true => rw [width_yes hx hc]; unfold wrap64; omega
   | false => rw [width_no hx hc]; omega
  ·exact .inr (by omega)
theorem width_range {l : List S33} (hv : l.all validB = true) (hn : l.length ≤ 5000) : -5000000000 ≤ widthW l ∧ widthW l ≤ 5000000000 := by
 have h := width_foldl l hv l.length (Nat.le_refl _)
 rw [List.take_length] at h
 omega
end Go.Proofs.YteadghhmoggjnaaB
end
section
namespace Go.Proofs.YteadghhmoggjnaaB
open Go.RowKit
open Go.Proofs.Yteadghhmoggjnaa.Q (S33 k33 z33 k33_open k33_mk k33_mkM k33_openF)
open Go.Proofs.YteadghhmoggjnaaW.PrintWords (Kd ReadsRow)
set_option maxHeartbeats 1600000
set_option maxRecDepth 1000000
def withW (x : S33) (n : Int) : S33 := ⟨x.f0, n, x.f2, x.f3, x.f4, x.f5, x.f6⟩
theorem marks_put {L : List S33} {I : List (Nat × Nat)} {j : Nat} {y : S33} {p : Nat × Nat} (hI : I.length = L.length) (hj : j < L.length) (hp : I[j]? = some p) : (marks L I).set j (y, some p) = marks (L.set j y) I := by
 unfold marks
 rw [hI, List.take_length, List.drop_length, List.map_nil, List.append_nil, List.take_of_length_le (by simp), List.drop_of_length_le (by simp), List.map_nil, List.append_nil]
 apply List.ext_getElem?
 intro k
 rw [List.getElem?_set]
 by_cases hk : j = k
 ·subst hk
  rw [if_pos rfl, if_pos (by simp; omega)]
  symm
  rw [List.getElem?_zip_eq_some]
  exact ⟨by rw [List.getElem?_set_self hj], by rw [List.getElem?_map, hp]; rfl⟩
 ·rw [if_neg hk]
  apply Option.ext
  rintro ⟨a, o⟩
  rw [List.getElem?_zip_eq_some, List.getElem?_zip_eq_some, List.getElem?_set_ne hk]
theorem row_width {w : World} {base g c : Nat} {L : List S33} {I : List (Nat × Nat)} {j : Nat} {y : S33} (h : (markK base).RowAt 33 w (fun k => k ≠ g) g c (marks L I)) (hI : I.length = L.length) (hy : L[j]? = some y) (n : Int) :
  w.cell? ⟨g, j * 7 + 1, none⟩ = some (.int .i64 y.f1) ∧ (markK base).RowAt 33 (w.setCell ⟨g, j * 7 + 1, none⟩ (.int .i64 n)) (fun k => k ≠ g) g c (marks (L.set j (withW y n)) I) := by
 have hj := (List.getElem?_eq_some_iff.1 hy).1
 obtain ⟨p, hp, hm⟩ := marks_all hI hy
 have hcell : w.cell? ⟨g, j * 7 + 1, none⟩ = some (.int .i64 y.f1) := by
  obtain ⟨cs, hcs, hcell⟩ := h.cells' hm
  rcases hcs with ⟨h0, -⟩ | ⟨p', v, h0, rfl, -⟩
  ·cases h0
  ·exact hcell 1 _ rfl
 refine ⟨hcell, ?_⟩
 rw [← marks_put hI hj hp]
 have hjm : j < (marks L I).length := by rw [marks_length _ _ (by omega)]; exact hj
 have hix : (marks L I)[j] = (y, some p) := (List.getElem?_eq_some_iff.1 hm).2
 refine h.field (i := j) (j := 1) hjm (show 1 < 7 by omega) (fun cs hcs => ?_) (fun k hk => hk)
 rw [hix] at hcs
 rcases hcs with ⟨h0, -⟩ | ⟨p', v, h0, rfl, h1, h2, h3⟩
 ·cases h0
 ·have hpp : p = p' := by injection h0
  subst hpp
  exact .inr ⟨p, v, rfl, rfl, h1, h2, h3⟩
theorem grow_at {l : List S33} {k : Nat} {i : Int} (h : (growL l)[k]? = some i) : ∃ j : Nat, i = (j : Int) ∧ j < l.length := by
 have hm := List.mem_of_getElem? h
 unfold growL growTo at hm
 rw [List.mem_map] at hm
 obtain ⟨j, hj, rfl⟩ := hm
 rw [List.mem_filter, List.mem_range] at hj
 exact ⟨j, rfl, hj.1⟩
theorem modify_set {l : List S33} {j : Nat} {y : S33} (h : l[j]? = some y) (f : S33 → S33) : l.modify j f = l.set j (f y) := by
 apply List.ext_getElem?
 intro k
 rw [List.getElem?_modify, List.getElem?_set]
 by_cases hk : j = k
 ·subst hk
  have := (List.getElem?_eq_some_iff.1 h).1
  rw [if_pos rfl, if_pos this, h]
  simp
 ·rw [if_neg hk]
  simp [hk]
theorem spread_step {l : List S33} {each more : Int} {odd : Bool} {k j : Nat} {y : S33} (hg : (growL l)[k]? = some (j : Int)) (hy : (spreadTo l (growL l) each more odd k)[j]? = some y) :
  spreadTo l (growL l) each more odd (k + 1) = (spreadTo l (growL l) each more odd k).set j (grown each more (growL l).length odd k y) := by
 show (match (growL l)[k]? with | some i => _ | none => _) = _
 rw [hg]
 show List.modify _ (j : Int).toNat _ = _
 rw [Int.toNat_natCast]
 exact modify_set hy _
def Near (b : Int) (l : List S33) : Prop := ∀ y ∈ l, -1000000 ≤ y.f1 ∧ y.f1 ≤ b
theorem near_set {b b' : Int} {l : List S33} {j : Nat} {z : S33} (h : Near b l) (hb : b ≤ b') (hz : -1000000 ≤ z.f1 ∧ z.f1 ≤ b') : Near b' (l.set j z) := by
 intro y hy
 rcases List.mem_or_eq_of_mem_set hy with h1 | h1
 ·have := h y h1; omega
 ·rw [h1]; exact hz
theorem check_rd (w : World) (len : Int) : Kind.int.Rd (w.alloc (.cells #[.int .i64 len] 3)) (fun _ => True) (some ⟨w.heap.size, 0, none⟩) 1 [len] := by
 refine ⟨rfl, fun _ => ⟨w.heap.size, 0, rfl, trivial, by simp, fun i x hx => ?_⟩⟩
 match i, hx with
 | 0, hx =>
  have : len = x := by simpa using hx
  subst this
  refine ⟨_, rfl, fun j u hu => ?_⟩
  match j, hu with
  | 0, hu =>
   have : Value.int .i64 len = u := by simpa using hu
   subst this
   rw [blk_cell (blk_new w _)]
   rfl
 | i + 1, hx => simp at hx
def Looks (mode : Int) (v : Value) (b : Bool) : Prop := ∀ (W : World) (g : Nat), W.heap[g]? = some (.map waysE 4) → (Instr.lookup 60 (.map (some g)) (.int .u8 mode) true).run Try.prog W = .ok (.tuple #[v, .bool b]) W
section
variable (A : Option Addr) (n c : Nat) (l : List S33) (len mode : Int) (odd : Bool) (w : World) (hr : boxK.Rd w (fun _ => True) A n l) (hc : n ≤ c) (hn : n ≤ 9223372036854775807) (hlen : ∀ x ∈ l, x.f6.length ≤ 9223372036854775807)
include hr hn hlen
theorem Adjust_err1 (v : Value) (b : Bool) (hl : Looks mode v b) (h : checkI l [len] = 1 ∨ b = false) :
  Calls Try.prog 11 #[.slice A n c, .int .i64 len, .int .u8 mode, .bool odd] w fun e w' => e = .returned (.tuple #[.slice none 0 0, .int .i64 0, .int .i64 1]) ∧ Below w.heap.size w w' := by
 have HR := hide hr
 have HLEN := hide hlen
 have hmm := @run_makeMap Try.prog
 obtain ⟨e0, he0⟩ : ∃ e0, e0 = checkI l [len] := ⟨_, rfl⟩
 rw [← he0] at h
 have HE0 := hide he0
 have HL := hide hl
 have HH := hide h
 clear hr hlen he0 hl h
 go_enter Try.func11, Try.ntmps11
 go_upto_region 2 with (go_at_call 26; refine (check_any A n c l (some ⟨w.heap.size, 0, none⟩) 1 1 [len] (fun _ => True) _ (HR.out.below (below_a _)) hn HLEN.out (check_rd w len) (by omega)).mono ?_; rw [← HE0.out]; rintro e w1 ⟨rfl, q⟩; have Q1 := hide (below_self (below_a _) q); clear q)
 obtain ⟨W1, W2, W3, W4, r1, r2, r3, r4, hb4, hbel⟩ := ways_made w1
 have hlk := HL.out W4 w1.heap.size hb4
 have HB4 := hide (below_self Q1.out hbel)
 clear hb4 hbel
 have HH2 := HH.out
 rcases HH2 with h1 | h1
 ·subst h1
  go_wp2_with fail
  go_ret3
  exact ⟨rfl, HB4.out⟩
 ·subst h1
  go_wp2_with fail
  all_goals go_ret3
  all_goals exact ⟨rfl, HB4.out⟩
theorem Adjust_err2 (v : Value) (hl : Looks mode v true) (h1 : checkI l [len] ≠ 1) (h0 : checkI l [len] ≠ 0) :
  Calls Try.prog 11 #[.slice A n c, .int .i64 len, .int .u8 mode, .bool odd] w fun e w' => e = .returned (.tuple #[.slice none 0 0, .int .i64 0, .int .i64 (checkI l [len])]) ∧ Below w.heap.size w w' := by
 have HR := hide hr
 have HLEN := hide hlen
 have hmm := @run_makeMap Try.prog
 obtain ⟨e0, he0⟩ : ∃ e0, e0 = checkI l [len] := ⟨_, rfl⟩
 rw [← he0] at h0 h1 ⊢
 have HE0 := hide he0
 have HL := hide hl
 have hb1 : (e0 == 1) = false := beq_eq_false_iff_ne.2 h1
 have hb0 : (e0 != 0) = true := by simpa using h0
 clear hr hlen he0 hl h0 h1
 go_enter Try.func11, Try.ntmps11
 go_upto_region 2 with (go_at_call 26; refine (check_any A n c l (some ⟨w.heap.size, 0, none⟩) 1 1 [len] (fun _ => True) _ (HR.out.below (below_a _)) hn HLEN.out (check_rd w len) (by omega)).mono ?_; rw [← HE0.out]; rintro e w1 ⟨rfl, q⟩; have Q1 := hide (below_self (below_a _) q); clear q)
 obtain ⟨W1, W2, W3, W4, r1, r2, r3, r4, hb4, hbel⟩ := ways_made w1
 have hlk := HL.out W4 w1.heap.size hb4
 have HB4 := hide (below_self Q1.out hbel)
 clear hb4 hbel
 go_wp2_with fail
 go_ret3
 exact ⟨rfl, HB4.out⟩
def Way (mode : Int) (gf : Nat) : Prop := ∀ (k : Int) (W : World), k ≤ 1000000000000 → Calls Try.prog gf #[.int .i64 k] W fun e W' => e = .returned (.int .i64 (wayOf mode k)) ∧ W = W'
theorem Adjust_plain (gf : Nat) (eg : ∀ args w, (callFunc gf args).run Try.prog w = .ok (.enter gf args) w) (hl : Looks mode (.func (.func gf) #[] #[]) true) (hw : Way mode gf) (h0 : checkI l [len] = 0) (h : mode ≠ 98 ∨ ¬ (0 < len - widthW l) ∨ (growL l).length = 0) :
    Calls Try.prog 11 #[.slice A n c, .int .i64 len, .int .u8 mode, .bool odd] w fun e w' => ∃ v, e = .returned (.tuple #[v, .int .i64 (wayOf mode (len - widthW l)), .int .i64 0]) ∧ Kd.S k33 33 w' w.heap.size (fun _ => True) v l ∧ Below w.heap.size w w' := by
  have HR := hide hr
  have HLEN := hide hlen
  have hmm := @run_makeMap Try.prog
  obtain ⟨hva, hfar, hl5⟩ := check_ok h0
  have hwr := width_range hva hl5
  have hlr : 0 ≤ len ∧ len ≤ 10000000 := by
    unfold allI at hfar
    have := List.all_eq_true.1 hfar len (by simp)
    unfold farL at this
    simp at this
    omega
  have HNS := hide (fun (y : S33) (hy : y ∈ l) => show y.f6.length ≤ 17592186044416 from Nat.le_trans (valid_n (List.all_eq_true.1 hva y hy)) (by omega))
  have hln : l.length = n := hr.1
  have hn5 : n ≤ 5000 := by omega
  have HE0 := hide h0
  have HL := hide hl
  have HW := hide hw
  have HLN := hide hln
  obtain ⟨wl, hwl⟩ : ∃ wl, wl = widthW l := ⟨_, rfl⟩
  obtain ⟨ng, hng⟩ : ∃ ng, ng = (growL l).length := ⟨_, rfl⟩
  rw [← hwl] at h hwr ⊢
  rw [← hng] at h
  obtain ⟨hw1, hw2⟩ := hwr
  obtain ⟨hl1, hl2⟩ := hlr
  have HWL := hide hwl
  have HNG := hide hng
  have HH := hide h
  clear hr hlen hl hw h0 hva hfar hl5 hln hwl hng h
  go_enter Try.func11, Try.ntmps11
  go_upto_region 2 with (go_at_call 26; refine (check_any A n c l (some ⟨w.heap.size, 0, none⟩) 1 1 [len] (fun _ => True) _ (HR.out.below (below_a _)) hn HLEN.out (check_rd w len) (by omega)).mono ?_; rw [HE0.out]; rintro e w1 ⟨rfl, q⟩; have Q1 := hide (below_self (below_a _) q); clear q)
  obtain ⟨W1, W2, W3, W4, r1, r2, r3, r4, hb4, hbel⟩ := ways_made w1
  have hlk := HL.out W4 w1.heap.size hb4
  have HB4 := hide (below_self Q1.out hbel)
  clear hb4 hbel
  go_upto_region 11 with (first
    | (go_at_call 32
       refine (own_row A n c l (fun _ => True) _ (HR.out.below HB4.out) (by omega) HNS.out).mono ?_
       rintro e w5 ⟨v5, rfl, q1, q2⟩
       obtain ⟨A5, c5, e5, hc5, hr5⟩ := q1.rd
       subst e5
       have HO5 := hide q1
       have HB5 := hide (below_self HB4.out q2)
       have HS5 := hide q2
       have HR5 := hide hr5
       have HC5 := hide hc5
       clear q1 q2 hr5 hc5)
    | (go_at_call 33
       refine (Width_any A5 l.length c5 l (fun _ => True) _ HR5.out (by rw [HLN.out]; omega)).mono ?_
       rw [← HWL.out]
       rintro e w6 ⟨rfl, q⟩
       have HB6 := hide (below_self HB5.out q)
       have HR6 := hide (HR5.out.below q)
       have HO6 := hide (HO5.out.below q)
       clear q)
    | (go_at_call 34
       refine (growing_any A5 l.length c5 l (fun _ => True) _ HR6.out HC5.out (by rw [HLN.out]; omega) HLEN.out).mono ?_
       rintro e w7 ⟨v7, rfl, q1, q2⟩
       obtain ⟨A7, c7, e7, -, -, -, -, -⟩ := q1.form
       rw [← HNG.out] at e7
       subst e7
       have HB7 := hide (below_self HB6.out q2)
       have HO7 := hide (HO6.out.below q2)
       clear q1 q2))
  have HBW : Hid (w.heap.size ≤ W4.heap.size) := hide HB4.out.size
  have fin : ∀ (wz : World), Owned wz W4.heap.size (.slice A5 l.length c5) l → Kd.S k33 33 wz w.heap.size (fun _ => True) (.slice A5 l.length c5) l := fun wz h => Go.Proofs.YteadghhmoggjnaaW.PrintWords.Kd.S_lower h.S HBW.out
  have FIN := hide fin
  clear fin
  have hk : len - wl ≤ 1000000000000 := by omega
  by_cases h98 : mode = 98
  · subst h98
    rcases HH.out with h | h | h
    · exact absurd rfl h
    · have hb : len - wl ≤ 0 := by omega
      have hb2 : decide (0 < len - wl) = false := decide_eq_false (by omega)
      clear h
      go_wp2_with (go_at_fn gf; refine (HW.out (len - wl) _ hk).mono ?_; rintro e w8 ⟨rfl, rfl⟩)
      go_ret3
      exact ⟨_, rfl, FIN.out _ HO7.out, HB7.out⟩
    · subst h
      go_wp2_with (go_at_fn gf; refine (HW.out (len - wl) _ hk).mono ?_; rintro e w8 ⟨rfl, rfl⟩)
      all_goals go_ret3
      all_goals exact ⟨_, rfl, FIN.out _ HO7.out, HB7.out⟩
  · have hb : (mode == 98) = false := beq_eq_false_iff_ne.2 h98
    clear h98
    go_wp2_with (go_at_fn gf; refine (HW.out (len - wl) _ hk).mono ?_; rintro e w8 ⟨rfl, rfl⟩)
    go_ret3
    exact ⟨_, rfl, FIN.out _ HO7.out, HB7.out⟩
end
end Go.Proofs.YteadghhmoggjnaaB
end
end
section
namespace Go.Proofs.Yteadghhmoggjnaa.Q
open Go.RowKit Go.Proofs.YteadghhmoggjnaaW.PrintWords Go.Proofs.YteadghhmoggjnaaW.PrintLast Go.Proofs.YteadghhmoggjnaaW.PrintMore
instance up0 (w : World) : Nonempty (Below w.heap.size w w) := ⟨Below.refl _ _⟩
instance up1 (w W : World) (o : Obj) [h : Nonempty (Below w.heap.size w W)] : Nonempty (Below w.heap.size w (W.alloc o)) := ⟨h.elim fun h => h.alloc h.size o⟩
instance up2 (w W : World) (n : Nat) [h : Nonempty (Below w.heap.size w W)] : Nonempty (Below w.heap.size w (W.drewN n)) := ⟨h.elim fun h => ⟨h.os, h.tape, h.output, h.size, h.block⟩⟩
instance up3 (w W : World) [h : Nonempty (Below w.heap.size w W)] : Nonempty (Below w.heap.size w W.drew) := ⟨h.elim fun h => ⟨h.os, h.tape, h.output, h.size, h.block⟩⟩
section
variable {w W W' : World} {g : Nat} {ob : Obj}
theorem bl (h : Below w.heap.size w W) [u : Nonempty (Below W.heap.size W W')] : Below w.heap.size w W' := u.elim fun u => h.trans (u.mono h.size)
theorem ct {r : Addr} {x : Value} (B : Below w.heap.size w W) (h : w.cell? r = some x) : W.cell? r = some x := (B.cell (World.block_lt_of_cell? w _ h)).trans h
theorem bu (h : W.heap[g]? = some ob) [u : Nonempty (Below W.heap.size W W')] : W'.heap[g]? = some ob := u.elim fun u => blk_below h u
variable {α : Type} {d : Kd α} {e base : Nat} {ok : Nat → Prop} {v : Value} {xs : List α} {A : Option Addr} {n : Nat}
theorem Vu (h : Kd.V d e W base ok v xs) [u : Nonempty (Below W.heap.size W W')] : Kd.V d e W' base ok v xs := u.elim fun u => Kd.V_below h u
theorem Nu (h : Kd.N d e W base ok v xs) [u : Nonempty (Below W.heap.size W W')] : Kd.N d e W' base ok v xs := u.elim fun u => Kd.N_below h u
theorem Ru (h : d.R e W base ok v xs) [u : Nonempty (Below W.heap.size W W')] : d.R e W' base ok v xs := u.elim fun u => Kd.R_below h u
theorem Su (h : Kd.S d e W base ok v xs) [u : Nonempty (Below W.heap.size W W')] : Kd.S d e W' base ok v xs := u.elim fun u => Kd.S_below h u
theorem Cu (h : d.C W A n xs) [u : Nonempty (Below W.heap.size W W')] : d.C W' A n xs := u.elim fun u => Kd.C_below h u
theorem box7 {t : TypeId} {v0 v1 v2 v3 v4 v5 v6 : Value} (h : W.heap[g]? = some (.cells #[v0, v1, v2, v3, v4, v5, v6] t (0, 0))) : W.cell? ⟨g, 0, none⟩ = some v0 ∧ W.cell? ⟨g, 1, none⟩ = some v1 ∧ W.cell? ⟨g, 2, none⟩ = some v2 ∧ W.cell? ⟨g, 3, none⟩ = some v3 ∧ W.cell? ⟨g, 4, none⟩ = some v4 ∧ W.cell? ⟨g, 5, none⟩ = some v5 ∧ W.cell? ⟨g, 6, none⟩ = some v6 ∧
  W.frozen? ⟨g, 0, none⟩ = false ∧ W.frozen? ⟨g, 1, none⟩ = false ∧ W.frozen? ⟨g, 2, none⟩ = false ∧ W.frozen? ⟨g, 3, none⟩ = false ∧ W.frozen? ⟨g, 4, none⟩ = false ∧ W.frozen? ⟨g, 5, none⟩ = false ∧ W.frozen? ⟨g, 6, none⟩ = false :=
 ⟨(blk_cell h 0).trans rfl, (blk_cell h 1).trans rfl, (blk_cell h 2).trans rfl, (blk_cell h 3).trans rfl, (blk_cell h 4).trans rfl, (blk_cell h 5).trans rfl, (blk_cell h 6).trans rfl, blk_frozen h 0, blk_frozen h 1, blk_frozen h 2, blk_frozen h 3, blk_frozen h 4, blk_frozen h 5, blk_frozen h 6⟩
end
section
variable {P : Program} {md : Region.Mode} {ops : Array Oper} {Q : Exit → Act → World → Prop} {S : World → Prop} {ds : List Nat} {T : Bool × List (List Nat × List Nat)} {B : List Nat}
theorem el7 {W : World} {g o : Nat} {v0 v1 v2 v3 v4 v5 v6 : Value} (h : ∀ j u, [v0, v1, v2, v3, v4, v5, v6][j]? = some u → W.cell? ⟨g, o + j, none⟩ = some u) (f : ∀ j, W.frozen? ⟨g, o + j, none⟩ = false) : W.cell? ⟨g, o, none⟩ = some v0 ∧ W.cell? ⟨g, o + 1, none⟩ = some v1 ∧ W.cell? ⟨g, o + 2, none⟩ = some v2 ∧ W.cell? ⟨g, o + 3, none⟩ = some v3 ∧ W.cell? ⟨g, o + 4, none⟩ = some v4 ∧ W.cell? ⟨g, o + 5, none⟩ = some v5 ∧ W.cell? ⟨g, o + 6, none⟩ = some v6 ∧
  W.frozen? ⟨g, o, none⟩ = false ∧ W.frozen? ⟨g, o + 1, none⟩ = false ∧ W.frozen? ⟨g, o + 2, none⟩ = false ∧ W.frozen? ⟨g, o + 3, none⟩ = false ∧ W.frozen? ⟨g, o + 4, none⟩ = false ∧ W.frozen? ⟨g, o + 5, none⟩ = false ∧ W.frozen? ⟨g, o + 6, none⟩ = false :=
 ⟨h 0 _ rfl, h 1 _ rfl, h 2 _ rfl, h 3 _ rfl, h 4 _ rfl, h 5 _ rfl, h 6 _ rfl, f 0, f 1, f 2, f 3, f 4, f 5, f 6⟩
theorem pu (i : Nat) (N : Tmp) (HT : rtab md ops = T) {oi : Oper} {v : Value} {fuel : Nat} {l l' : Array Bool} {a a' : Act} {w : World}
  (hl : l.setIfInBounds i true = l' := by simp only [List.setIfInBounds_toArray, List.set_cons_zero, List.set_cons_succ]; rfl)
  (hi : ops[i]? = some oi := by rfl) (hN : oi.dst = some N := by rfl) (hc : anyT T l.toList l'.toList i = true := by kernel_rfl)
  (hw : Region.wanted oi (yielded ops a.tmps) = true := by rfl) (hy : ∀ w', (execOp a.eval oi).run P w' = .ok (.value v) w' := by intro w'; go_simp; with_reducible rfl)
  (hQ : ∀ c a w, Q (.panic c) (a.put oi.dst v) w → Q (.panic c) a w := by exact fun _ _ _ h => h)
  (ha : a.put (some N) v = a' := by simp only [Act.put, List.setIfInBounds_toArray, List.set_cons_zero, List.set_cons_succ, i64_w, i32_w]; rfl)
  (h : wpAnyLast P md ops Q S ds fuel l' a' w) : wpAnyLast P md ops Q S ds (fuel + 1) l a w := pure_ l' hi hN (any_of HT hc) hQ (Or.inl ⟨hw, hy⟩) ha h
theorem tk (i : Nat) (N : Tmp) (HT : rtab md ops = T) (HW : waitsOk T.2 B = true) {w : World} (hS : S w) {oi : Oper} {v : Value} {fuel : Nat} {l l' : Array Bool} {a a' : Act}
  (hl : l.setIfInBounds i true = l' := by simp only [List.setIfInBounds_toArray, List.set_cons_zero, List.set_cons_succ]; rfl)
  (hi : ops[i]? = some oi := by rfl) (hN : oi.dst = some N := by rfl) (hc : takeW T B ds l.toList l'.toList i = true := by kernel_rfl)
  (hw : Region.wanted oi (yielded ops a.tmps) = true := by rfl) (hy : ∀ w', S w' → (execOp a.eval oi).run P w' = .ok (.value v) w')
  (hQ : ∀ c a w, Q (.panic c) (a.put oi.dst v) w → Q (.panic c) a w := by exact fun _ _ _ h => h)
  (ha : a.put (some N) v = a' := by simp only [Act.put, List.setIfInBounds_toArray, List.set_cons_zero, List.set_cons_succ, i64_w, i32_w]; rfl)
  (h : wpAnyLast P md ops Q S ds fuel l' a' w) : wpAnyLast P md ops Q S ds (fuel + 1) l a w := take_ l' hi hN (take_ofW HT HW hc) hQ (Or.inl ⟨hw, hy⟩) hS ha h
end
end Go.Proofs.Yteadghhmoggjnaa.Q
end
