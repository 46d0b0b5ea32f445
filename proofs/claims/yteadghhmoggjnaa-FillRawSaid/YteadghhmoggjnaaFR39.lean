import Derived.Deep.Slices
import Derived.Deep.Fields
import Derived.SizedLaws
import Derived.ChangeMaps5
import Derived.Test.YteadghhmoggjnaaFR38
import Derived.Test.YteadghhmoggjnaaFR14
import Derived.Test.YteadghhmoggjnaaFR24
set_option linter.unusedVariables false
set_option linter.unusedSimpArgs false
section
namespace Go.Proofs.YteadghhmoggjnaaB
open Go.ChangeShapes Go.WideShapes Go.ChangeAt Go.RowKit Go.Deep
open Go.Proofs.Yteadghhmoggjnaa.Q (S33 k33 z33)
open Go.Proofs.YteadghhmoggjnaaW.PrintWords (Kd ReadsRow)
set_option maxRecDepth 1000000
set_option maxHeartbeats 1600000
theorem own_ : ownKnob Try.prog.godebug = none := by kernel_rfl
theorem laidOut_ : laidOutB Try.prog = true := by kernel_rfl
theorem reach_eq : reachBytes = 140737488351232 := rfl
theorem list_of {α : Type} {Q : Nat → α → Prop} : ∀ (n : Nat), (∀ i, i < n → ∃ x, Q i x) → ∃ l : List α, l.length = n ∧ ∀ i x, l[i]? = some x → Q i x
 | 0, _ => ⟨[], rfl, fun i x h => by simp at h⟩
 | n + 1, h => by
  obtain ⟨l, hl, hq⟩ := list_of n fun i hi => h i (by omega)
  obtain ⟨x, hx⟩ := h n (by omega)
  refine ⟨l ++ [x], by simp [hl], fun i y hy => ?_⟩
  rcases Nat.lt_or_ge i l.length with hi | hi
  ·rw [List.getElem?_append_left hi] at hy; exact hq i y hy
  ·rw [List.getElem?_append_right hi] at hy
   have h0 : i - l.length = 0 := by
    rcases Nat.eq_zero_or_pos (i - l.length) with h | h
    ·exact h
    ·rw [List.getElem?_eq_none (by simp; omega)] at hy; cases hy
   rw [h0] at hy
   have e1 : i = n := by omega
   have e2 : x = y := by simpa using hy
   rw [e1, ← e2]; exact hx
def Light {H : Type} (P : Program) (t : TypeId) (d : DataW H) : Prop := ∀ n ∈ d.weights P t, n ≤ reachBytes
section
variable {H : Type} {enc : TypeId × Value → H} {P : Program} {w : World} {spare : Nat → Bool} {held : Bool}
theorem weightsAll_mem {e : TypeId} : ∀ {l : List (DataW H)} {d : DataW H}, d ∈ l → ∀ n ∈ d.weights P e, n ∈ DataW.weightsAll P e l
 | d' :: r, d, hd, n, hn => by
  simp only [DataW.weightsAll, List.mem_append]
  rcases List.mem_cons.1 hd with rfl | h
  ·exact Or.inl hn
  ·exact Or.inr (weightsAll_mem h n hn)
theorem Light.field {t : TypeId} {fs : Array Field} {ys : List (DataW H × List MemPlace)} (ht : P.underlying t = some (.struct fs)) (h : Light P t (.agg (ys.map (·.1)))) {i : Nat} {f : Field} {y : DataW H × List MemPlace} (hf : fs[i]? = some f) (hy : ys[i]? = some y) : Light P f.type y.1 := fun n hn => by
 refine h n ?_
 simp only [DataW.weights, ht]
 exact DataW.weights_mem_each (j := i) (t := f.type) (d := y.1) (by rw [List.getElem?_map, Array.getElem?_toList, hf]; rfl) (by rw [List.getElem?_map, hy]; rfl) n hn
theorem open_kindS {α : Type} (d : Kind α) (Pz : α → Prop) {t e : TypeId} {cs0 : List Value} {x : DataW H × List MemPlace} {fuel : Nat} (ht : P.underlying t = some (.slice e)) (hsz : P.cellsOf e = d.sz) (hs0 : 0 < d.sz)
  (hel : ∀ (n : Nat) (cs : List Value) (y : DataW H × List MemPlace), cs.length = d.sz → DataW.trod enc P w 0 spare held n e cs = some y → Light P e y.1 → ∃ z : α, d.K w (fun _ => True) z cs ∧ Pz z)
  (hf : DataW.trod enc P w 0 spare held fuel t cs0 = some x) (hx : Light P t x.1) : ∃ A n c l, cs0 = [.slice A n c] ∧ n ≤ c ∧ c ≤ maxLen ∧ d.Rd w (fun _ => True) A n l ∧ (∀ z ∈ l, Pz z) ∧ n * P.bytesOf e ≤ reachBytes := by
 rcases open_slice ht hf with ⟨hc, -⟩ | ⟨a, len, cap, m, n, D, Pl, hc, hb, hl, hm, hmm, hxe, hi⟩
 ·exact ⟨none, 0, 0, [], hc, Nat.le_refl _, Nat.zero_le _, Kind.Rd.nil _ _ _ _, (fun z hz => by cases hz), (by rw [Nat.zero_mul]; exact Nat.zero_le _)⟩
 ·refine ⟨some a, len, cap, ?_⟩
  have hlm : len ≤ m := by rw [hmm]; split <;> omega
  have hw1 : ∀ i, i < len → Light P e (D i) := fun i hil n hn => by
   refine hx n ?_
   rw [hxe]
   simp only [DataW.weights, ht, List.mem_cons, List.mem_append]
   exact .inr (.inl (weightsAll_mem (List.mem_map.2 ⟨i, List.mem_range.2 hil, rfl⟩) n hn))
  have hw2 : len * P.bytesOf e ≤ reachBytes := by
   have := hx ((len + (m - len)) * P.bytesOf e) (by
    rw [hxe]
    simp [DataW.weights, ht])
   exact Nat.le_trans (Nat.mul_le_mul_right _ (Nat.le_add_right _ _)) this
  have hq : ∀ i, i < len → ∃ z : α, Pz z ∧ ∃ cs, d.K w (fun _ => True) z cs ∧ ∀ j u, cs[j]? = some u → w.cell? (a.add (i * d.sz + j)) = some u := by
   intro i hil
   obtain ⟨cs', h1, h2⟩ := hi i (by omega)
   rw [hsz] at h1
   obtain ⟨-, hlen, hat⟩ := World.cells?_some h1
   obtain ⟨z, hz, hPz⟩ := hel n cs' _ hlen h2 (hw1 i hil)
   refine ⟨z, hPz, cs', hz, fun j u hu => ?_⟩
   have hj : j < d.sz := by rw [← hlen]; exact (List.getElem?_eq_some_iff.1 hu).1
   rw [← add_add, hat j hj, hu]
  obtain ⟨l, hll, hlq⟩ := list_of len hq
  refine ⟨l, hc, hl, hm, ⟨hll, fun hp => ?_⟩, fun z hz => ?_, hw2⟩
  ·obtain ⟨z, hz⟩ : ∃ z, l[0]? = some z := ⟨_, List.getElem?_eq_getElem (by omega)⟩
   obtain ⟨-, cs, hK, hcell⟩ := hlq 0 z hz
   obtain ⟨u, hu⟩ : ∃ u, cs[0]? = some u := ⟨_, List.getElem?_eq_getElem (by rw [d.len hK]; omega)⟩
   have h0 := hcell 0 u hu
   rw [Nat.zero_mul, Nat.add_zero] at h0
   have ha : a.add 0 = a := by unfold Addr.add; rw [if_pos rfl]
   rw [ha] at h0
   have hfl := addr_flat h0
   refine ⟨a.block, a.off, congrArg some hfl, trivial, ?_, fun i y hy => ?_⟩
   ·rw [hfl] at h0; exact cell_lt h0
   ·obtain ⟨-, cs, hK, hcell⟩ := hlq i y hy
    refine ⟨cs, hK, fun j u hu => ?_⟩
    have := hcell j u hu
    rw [hfl, Addr.add_lit] at this
    rw [← this, Nat.add_assoc]
  ·obtain ⟨i, hi, rfl⟩ := List.mem_iff_getElem.1 hz
   exact (hlq i _ (List.getElem?_eq_getElem hi)).1
theorem Light.str {t : TypeId} {s : ByteArray} (h : Light (H := H) P t (.lit (.string s.data.toList))) : s.size ≤ reachBytes := h s.size (by simp [DataW.weights])
end
section
variable {H : Type} {enc : TypeId × Value → H} {w : World} {spare : Nat → Bool} {held : Bool}
theorem int_el (n : Nat) (cs : List Value) (y : DataW H × List MemPlace) (hl : cs.length = Kind.int.sz) (h : DataW.trod enc Try.prog w 0 spare held n 3 cs = some y) (hy : Light Try.prog 3 y.1) : ∃ z : Int, Kind.int.K w (fun _ => True) z cs ∧ True := by
 obtain ⟨k, e0, -, -⟩ := DataW.trod_int Try.underlying3 h
 exact ⟨k, e0, trivial⟩
theorem box_el (n : Nat) (cs : List Value) (y : DataW H × List MemPlace) (hl : cs.length = boxK.sz) (h : DataW.trod enc Try.prog w 0 spare held n 33 cs = some y) (hy : Light Try.prog 33 y.1) : ∃ z : S33, boxK.K w (fun _ => True) z cs ∧ Fit z := by
 obtain ⟨ys, n', -, hye, -, hyl, hf⟩ := DataW.trod_struct Try.underlying33 h
 rw [hye] at hy
 have h7 : cs.length = 7 := hl
 match cs, h7 with
 | [a0, a1, a2, a3, a4, a5, a6], _ =>
  have f0 := hf 0 _ rfl
  have f1 := hf 1 _ rfl
  have f2 := hf 2 _ rfl
  have f3 := hf 3 _ rfl
  have f4 := hf 4 _ rfl
  have f5 := hf 5 _ rfl
  have f6 := hf 6 _ rfl
  have hy7 : ys.length = 7 := hyl
  have w4 := hy.field Try.underlying33 (i := 4) rfl (List.getElem?_eq_getElem (by omega))
  have w5 := hy.field Try.underlying33 (i := 5) rfl (List.getElem?_eq_getElem (by omega))
  have w6 := hy.field Try.underlying33 (i := 6) rfl (List.getElem?_eq_getElem (by omega))
  rw [List.getElem?_eq_getElem (by omega)] at f0 f1 f2 f3 f4 f5 f6
  have ci : Try.prog.cellsOf 3 = 1 := by kernel_rfl
  have cs1 : Try.prog.cellsOf 9 = 1 := by kernel_rfl
  have cl : Try.prog.cellsOf 22 = 1 := by kernel_rfl
  have bi : Try.prog.bytesOf 3 = 8 := by kernel_rfl
  obtain ⟨k0, e0, -, -⟩ := DataW.trod_int Try.underlying3 f0
  obtain ⟨k1, e1, -, -⟩ := DataW.trod_int Try.underlying3 f1
  obtain ⟨k2, e2, -, -⟩ := DataW.trod_int Try.underlying3 f2
  obtain ⟨k3, e3, -, -⟩ := DataW.trod_int Try.underlying3 f3
  obtain ⟨s4, e4, d4, -⟩ := DataW.trod_string Try.underlying9 f4
  obtain ⟨s5, e5, d5, -⟩ := DataW.trod_string Try.underlying9 f5
  obtain ⟨A, m, c, l, e6, hmc, hcm, hr, -, hwl⟩ := open_kindS Kind.int (fun _ => True) Try.underlying22 (by kernel_rfl) (by decide) int_el f6 w6
  rw [d4] at w4
  rw [d5] at w5
  have w4' := Light.str w4
  have w5' := Light.str w5
  rw [bi, reach_eq] at hwl
  rw [reach_eq] at w4' w5'
  have g0 : List.take (Try.prog.cellsOf 3) [a0, a1, a2, a3, a4, a5, a6] = [.int .i64 k0] := e0
  have g1 : List.take (Try.prog.cellsOf 3) [a1, a2, a3, a4, a5, a6] = [.int .i64 k1] := e1
  have g2 : List.take (Try.prog.cellsOf 3) [a2, a3, a4, a5, a6] = [.int .i64 k2] := e2
  have g3 : List.take (Try.prog.cellsOf 3) [a3, a4, a5, a6] = [.int .i64 k3] := e3
  have g4 : List.take (Try.prog.cellsOf 9) [a4, a5, a6] = [.string s4] := e4
  have g5 : List.take (Try.prog.cellsOf 9) [a5, a6] = [.string s5] := e5
  have g6 : List.take (Try.prog.cellsOf 22) [a6] = [.slice A m c] := e6
  rw [ci] at g0 g1 g2 g3
  rw [cs1] at g4 g5
  rw [cl] at g6
  have z0 : a0 = .int .i64 k0 := by simpa using g0
  have z1 : a1 = .int .i64 k1 := by simpa using g1
  have z2 : a2 = .int .i64 k2 := by simpa using g2
  have z3 : a3 = .int .i64 k3 := by simpa using g3
  have z4 : a4 = .string s4 := by simpa using g4
  have z5 : a5 = .string s5 := by simpa using g5
  have z6 : a6 = .slice A m c := by simpa using g6
  have hln : l.length = m := hr.1
  subst hln
  exact ⟨⟨k0, k1, k2, k3, s4, s5, l⟩, ⟨A, c, by rw [z0, z1, z2, z3, z4, z5, z6]; rfl, hmc, hr⟩, by show l.length ≤ _; omega, by show s5.size ≤ _; omega, by show s4.size ≤ _; omega⟩
theorem open_raw {r : Reach} {b0 : Nat} {v : Value} {x : DataW H} {ps : List MemPlace} (hval : Value.okWide Try.prog w r b0 52 v) (h : DataW.Trod enc Try.prog w 0 spare held 52 v x ps) (hx : Light Try.prog 52 x) :
  ∃ (A0 : Option Addr) (c0 : Nat) (l : List S33) (len rest : Int) (h : S33) (A9 : Option Addr) (c9 : Nat) (mode : Int) (A11 : Option Addr) (c11 : Nat) (pl : List Int),
   v = .agg #[.slice A0 l.length c0, .int .i64 len, .int .i64 rest, .int .i64 h.f0, .int .i64 h.f1, .int .i64 h.f2, .int .i64 h.f3, .string h.f4, .string h.f5, .slice A9 h.f6.length c9, .int .u8 mode, .slice A11 pl.length c11] ∧
   l.length ≤ c0 ∧ h.f6.length ≤ c9 ∧ pl.length ≤ c11 ∧ k33.C w A0 l.length l ∧ (Kd.int .i64).C w A9 h.f6.length h.f6 ∧ (Kd.int .i64).C w A11 pl.length pl ∧ (∀ x ∈ l, Fit x) ∧ Fit h := by
 obtain ⟨cs, rfl, hsz⟩ := okWide_struct Try.underlying52 hval
 obtain ⟨fuel, hf0⟩ := h
 have hc : Try.prog.cellsOf 52 = 12 := by kernel_rfl
 rw [hc] at hsz
 obtain ⟨ys, n', -, hye, -, hyl, hf⟩ := DataW.trod_struct Try.underlying52 hf0
 have hxe : x = .agg (ys.map (·.1)) := by injection hye
 rw [hxe] at hx
 obtain ⟨cl, rfl⟩ : ∃ l : List Value, cs = l.toArray := ⟨cs.toList, by simp⟩
 have h12 : cl.length = 12 := by simpa using hsz
 have hy6 : ys.length = 6 := hyl
 match cl, h12 with
 | [a0, a1, a2, a3, a4, a5, a6, a7, a8, a9, a10, a11], _ =>
  have f0 := hf 0 _ rfl
  have f1 := hf 1 _ rfl
  have f2 := hf 2 _ rfl
  have f3 := hf 3 _ rfl
  have f4 := hf 4 _ rfl
  have f5 := hf 5 _ rfl
  have w0 := hx.field Try.underlying52 (i := 0) rfl (List.getElem?_eq_getElem (by omega))
  have w3 := hx.field Try.underlying52 (i := 3) rfl (List.getElem?_eq_getElem (by omega))
  have w5 := hx.field Try.underlying52 (i := 5) rfl (List.getElem?_eq_getElem (by omega))
  rw [List.getElem?_eq_getElem (by omega)] at f0 f1 f2 f3 f4 f5
  have ci : Try.prog.cellsOf 3 = 1 := by kernel_rfl
  have cu : Try.prog.cellsOf 5 = 1 := by kernel_rfl
  have cb : Try.prog.cellsOf 23 = 1 := by kernel_rfl
  have cn : Try.prog.cellsOf 22 = 1 := by kernel_rfl
  have cx : Try.prog.cellsOf 33 = 7 := by kernel_rfl
  obtain ⟨A0, m0, c0, l, e0, hmc0, hcm0, hr0, hfit, -⟩ := open_kindS boxK Fit Try.underlying23 (by kernel_rfl) (by decide) box_el f0 w0
  obtain ⟨k1, e1, -, -⟩ := DataW.trod_int Try.underlying3 f1
  obtain ⟨k2, e2, -, -⟩ := DataW.trod_int Try.underlying3 f2
  have g3 : List.take (Try.prog.cellsOf 33) [a3, a4, a5, a6, a7, a8, a9, a10, a11] = [a3, a4, a5, a6, a7, a8, a9] := by rw [cx]; rfl
  obtain ⟨hb, hK, hfh⟩ := box_el (enc := enc) (w := w) (spare := spare) (held := held) n' [a3, a4, a5, a6, a7, a8, a9] _ rfl (by rw [← g3]; exact f3) w3
  obtain ⟨A9, c9, e3, h9, hr9⟩ := hK
  obtain ⟨k4, e4, -, -⟩ := DataW.trod_int Try.underlying5 f4
  obtain ⟨A11, m11, c11, pl, e5, hmc11, hcm11, hr11, -, -⟩ := open_kindS Kind.int (fun _ => True) Try.underlying22 (by kernel_rfl) (by decide) int_el f5 w5
  have g0 : List.take (Try.prog.cellsOf 23) [a0, a1, a2, a3, a4, a5, a6, a7, a8, a9, a10, a11] = [.slice A0 m0 c0] := e0
  have g1 : List.take (Try.prog.cellsOf 3) [a1, a2, a3, a4, a5, a6, a7, a8, a9, a10, a11] = [.int .i64 k1] := e1
  have g2 : List.take (Try.prog.cellsOf 3) [a2, a3, a4, a5, a6, a7, a8, a9, a10, a11] = [.int .i64 k2] := e2
  have g4 : List.take (Try.prog.cellsOf 5) [a10, a11] = [.int .u8 k4] := e4
  have g5 : List.take (Try.prog.cellsOf 22) [a11] = [.slice A11 m11 c11] := e5
  rw [ci] at g1 g2
  rw [cb] at g0
  rw [cu] at g4
  rw [cn] at g5
  have z0 : a0 = .slice A0 m0 c0 := by simpa using g0
  have z1 : a1 = .int .i64 k1 := by simpa using g1
  have z2 : a2 = .int .i64 k2 := by simpa using g2
  have z4 : a10 = .int .u8 k4 := by simpa using g4
  have z5 : a11 = .slice A11 m11 c11 := by simpa using g5
  have hm : maxLen = 9223372036854775807 := rfl
  have hl0 : l.length = m0 := hr0.1
  have hl11 : pl.length = m11 := hr11.1
  subst hl0
  subst hl11
  unfold S33cells at e3
  injection e3 with q0 e3
  injection e3 with q1 e3
  injection e3 with q2 e3
  injection e3 with q3 e3
  injection e3 with q4 e3
  injection e3 with q5 e3
  injection e3 with q6 e3
  refine ⟨A0, c0, l, k1, k2, hb, A9, c9, k4, A11, c11, pl, by rw [z0, z1, z2, z4, z5, q0, q1, q2, q3, q4, q5, q6], hmc0, h9, hmc11, C_boxes (by omega) (fun x hx => by have := (hfit x hx).1; omega) hr0, C_ints (by have := hfh.1; omega) hr9, C_ints (by omega) hr11, hfit, hfh⟩
end
end Go.Proofs.YteadghhmoggjnaaB
end
