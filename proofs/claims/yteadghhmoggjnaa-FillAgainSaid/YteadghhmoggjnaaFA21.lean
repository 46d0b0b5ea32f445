import Derived.KernelRfl
import Derived.Test.YteadghhmoggjnaaRows
import Derived.ProofKit
import Derived.Deep.Slices
import Derived.Deep.Fields
import Derived.SizedLaws
import Derived.ChangeMaps5
import Derived.Test.YteadghhmoggjnaaFA20
import Derived.Test.YteadghhmoggjnaaFA17
import Derived.Test.YteadghhmoggjnaaFA18
import Derived.Test.YteadghhmoggjnaaFA4
import Derived.Test.YteadghhmoggjnaaFA14
section
/- What FillAgain's calls answer. -/
set_option linter.unusedVariables false
set_option linter.unusedSimpArgs false
namespace Go.Proofs.YteadghhmoggjnaaB
open Go.RowKit
open Go.Proofs.Yteadghhmoggjnaa.Q
open Go.Proofs.YteadghhmoggjnaaW.PrintWords Go.Proofs.YteadghhmoggjnaaW.PrintLast
set_option maxHeartbeats 1600000
theorem hyN_ok (n : Int) : hyphB (hyN n) = true := by
 have h12 : 0 ≤ wrap64 (Int.tmod (IntKind.u64.wrap n) 12) ∧ wrap64 (Int.tmod (IntKind.u64.wrap n) 12) < 12 := by
  rw [IntKind.wrap_u64, Int.tmod_eq_emod_of_nonneg (by omega)]
  unfold wrap64
  omega
 have h5 : hyphB ⟨5, 0, 0, 0, ⟨#[]⟩, ⟨#[]⟩, []⟩ = true := by kernel_rfl
 unfold hyN
 split
 ·exact h5
 ·generalize wrap64 (Int.tmod (IntKind.u64.wrap n) 12) = k at *
  unfold hyphB validB
  dsimp only
  rw [decide_eq_false (by omega : ¬ k < -1000000), decide_eq_false (by omega : ¬ 1000000 < k)]
  rfl
theorem take_ok (l : List S33) (len : Int) (h : S33) (hl : l.length ≤ 5000) (h6 : ∀ x ∈ l, x.f6 = []) (hh : h.f6 = []) (hb : hyphB h = true) (hv : l.all validB = true) (h1 : 0 ≤ len ∧ len ≤ 10000000) :
  fill_Take.f l len h.f0 h.f1 h.f2 h.f3 h.f4 h.f5 [] = some ((takeL l len h).1, (takeL l len h).2.1, (takeL l len h).2.2, 0) := by
 obtain ⟨p1, p2, p3, p4⟩ := parts_take l len h
 have hok : ∀ l' : List S33, l'.length ≤ 6000 → (∀ x ∈ l', x ∈ l ∨ x = h) → okL l' = true := fun l' a b => by
  unfold okL
  rw [Bool.and_eq_true]
  refine ⟨decide_eq_true (by omega), List.all_eq_true.2 (fun x hx => decide_eq_true ?_)⟩
  rcases b x hx with c | rfl
  ·rw [h6 x c]; exact Nat.zero_le _
  ·rw [hh]; exact Nat.zero_le _
 have hfar : allI farL [len] = true := by
  unfold allI farL
  rw [List.all_cons, List.all_nil, decide_eq_false (by omega : ¬ len < 0), decide_eq_false (by omega : ¬ 10000000 < len)]
  rfl
 have hc : fill_check.f l [len] = some 0 := by
  show some (checkI l [len]) = _
  unfold checkI
  rw [hv, hfar]
  show some (if (false : Bool) = true then _ else _) = _
  rw [if_neg (by decide), if_neg (by omega)]
 have hy := fill_hyph h
 rw [hb] at hy
 rw [← hh]
 have ht : fill_take.f l len h.f0 h.f1 h.f2 h.f3 h.f4 h.f5 h.f6 = some (takeL l len h) := if_pos (hok l (by omega) (fun x hx => .inl hx))
 have ho1 : fill_own.f (takeL l len h).1 = some (takeL l len h).1 := if_pos (hok _ (by omega) p2)
 have ho2 : fill_own.f (takeL l len h).2.1 = some (takeL l len h).2.1 := if_pos (hok _ (by omega) (fun x hx => .inl (p4 x hx)))
 unfold fill_Take.f
 rw [hy, Option.bind_some, if_pos rfl, hc, Option.bind_some, if_pos rfl, ht, Option.bind_some, ho1, Option.bind_some, ho2, Option.bind_some]
theorem box_6 {l : List Int} {x : S33} (h : x ∈ rowL l) : x.f6 = [] := by obtain ⟨n, rfl⟩ := rowL_mem h; exact (boxOf_ok n).2.1
theorem again_facts (ns more : List Int) (len hn : Int) : ∃ (K : Nat) (row rm : List S33) (h : S33) (line left line2 left2 : List S33) (full : Bool), AgF ns more len hn K row rm h (wrap64 (Int.tmod (IntKind.u64.wrap len) 200)) line left line2 left2 full := by
 have hn200 : 0 ≤ wrap64 (Int.tmod (IntKind.u64.wrap len) 200) ∧ wrap64 (Int.tmod (IntKind.u64.wrap len) 200) < 200 := by
  rw [IntKind.wrap_u64, Int.tmod_eq_emod_of_nonneg (by omega)]
  unfold wrap64
  omega
 generalize wrap64 (Int.tmod (IntKind.u64.wrap len) 200) = n at *
 have hl1 := rowL_len ns
 have hl2 := rowL_len more
 obtain ⟨p1, p2, p3, p4⟩ := parts_take (rowL ns) n (hyN hn)
 have h6 : ∀ x ∈ (takeL (rowL ns) n (hyN hn)).1, x.f6 = [] := fun x hx => by
  rcases p2 x hx with h | rfl
  ·exact box_6 h
  ·exact hyN_6 hn
 obtain ⟨K1, hK1⟩ := same_ev (takeL (rowL ns) n (hyN hn)).1 (by omega) (fun x hx => by rw [h6 x hx]; exact Nat.zero_le _)
 obtain ⟨K2, hK2⟩ := same_ev (takeL (rowL ns) n (hyN hn)).2.1 (by omega) (fun x hx => by rw [box_6 (p4 x hx)]; exact Nat.zero_le _)
 have hv : (rowL ns).all validB = true := List.all_eq_true.2 (fun x hx => by obtain ⟨m, rfl⟩ := rowL_mem hx; exact (boxOf_ok m).1)
 have hv2 : (rowL more).all validB = true := List.all_eq_true.2 (fun x hx => by obtain ⟨m, rfl⟩ := rowL_mem hx; exact (boxOf_ok m).1)
 have hag := fun hf => takeL_again (rowL ns) (gB 3) (by kernel_rfl) (rowL more) n (hyN hn) hf
 have htk := take_ok (rowL ns) n (hyN hn) (by omega) (fun x hx => box_6 hx) (hyN_6 hn) (hyN_ok hn) hv ⟨hn200.1, by omega⟩
 have happ : rowL ns ++ [gB 3] ++ rowL more = rowL ns ++ gB 3 :: rowL more := by rw [List.append_assoc]; rfl
 have hvg : validB (gB 3) = true := by kernel_rfl
 have htk2 := take_ok (rowL ns ++ gB 3 :: rowL more) n (hyN hn) (by rw [List.length_append, List.length_cons]; omega) (fun x hx => by
   rcases List.mem_append.1 hx with h | h
   ·exact box_6 h
   ·rcases List.mem_cons.1 h with rfl | h
    ·rfl
    ·exact box_6 h) (hyN_6 hn) (hyN_ok hn) (by rw [List.all_append, List.all_cons, hv, hvg, hv2]; rfl) ⟨hn200.1, by omega⟩
 refine ⟨max (max K1 K2) 482, rowL ns, rowL more, hyN hn, (takeL (rowL ns) n (hyN hn)).1, (takeL (rowL ns) n (hyN hn)).2.1, (takeL (rowL ns ++ gB 3 :: rowL more) n (hyN hn)).1, (takeL (rowL ns ++ gB 3 :: rowL more) n (hyN hn)).2.1, (takeL (rowL ns) n (hyN hn)).2.2, ?_⟩
 have hfh := hyN_f hn
 rw [hyN_6] at hfh
 refine ⟨row_f ns (by omega), row_f more (by omega), hfh, htk, fun hf => takeL_rest _ _ _ hf, fun hf => ?_, fun hf => (hag hf).1, fun hf => ?_, fun hf => ?_, hK1 _ (by omega), hK2 _ (by omega), fun x hx => box_6 hx, fun x hx => box_6 hx, hl1, hl2⟩
 ·rw [happ, htk2, (hag hf).2.1, hf]
 ·obtain ⟨t, ht⟩ := (hag hf).2.2
  rw [ht, List.take_left]
 ·obtain ⟨t, ht⟩ := (hag hf).2.2
  rw [ht, List.length_append]
  omega
end Go.Proofs.YteadghhmoggjnaaB
end
section
/- The last step of a law's row, whatever its arguments: it returned true and only made new memory. -/
set_option linter.unusedVariables false
namespace Go.Proofs.YteadghhmoggjnaaB
open Go.ChangeShapes Go.WideShapes Go.ChangeAt Go.RowKit
section
variable {H : Type} {enc : TypeId × Value → H} {P : Program}
theorem trodAll_stays (hl : laidOutB P = true) {W W' : World} (hb : Below W.heap.size W W') : ∀ {ts : List TypeId} {vs : List Value} {ds : List (DataW H)} {ps : List MemPlace}, (∀ t ∈ ts, P.readableRec t = true ∧ t < P.types.size) →
  (∀ x ∈ ps, x.block < W.heap.size) → DataW.TrodAll enc P W 0 (fun _ => true) true ts vs ds ps → DataW.TrodAll enc P W' 0 (fun b => decide (b < W.heap.size)) true ts vs ds ps
 | [], [], [], ps, _, _, h => h
 | [], [], _ :: _, _, _, _, h => h.elim
 | [], _ :: _, _, _, _, _, h => h.elim
 | _ :: _, [], _, _, _, _, h => h.elim
 | _ :: _, _ :: _, [], _, _, _, h => h.elim
 | t :: ts, v :: vs, d :: ds, ps, hr, hp, h => by
  obtain ⟨p, q, h1, h2, rfl⟩ := h
  refine ⟨p, q, Below.trod hl (hr t (by simp)).1 (hr t (by simp)).2 h1 hb (fun x hx => hp x (by simp [hx])), trodAll_stays hl hb (fun t ht => hr t (by simp [ht])) (fun x hx => hp x (by simp [hx])) h2, rfl⟩
theorem law_post {f : Func} {s : ChangeSpec} {W W' : World} {args : Array Value} {ds : List (DataW H)} {before : List MemPlace} {b : TypeId} (hl : laidOutB P = true) (hv : s.vars = []) (hr : f.resultTypes.toList = [b]) (hb1 : f.resultTypes.size = 1) (hb : P.underlying b = some .bool)
  (hres : (s.fn H (ds ++ [])).results = [.lit (.bool true)]) (hargs : (s.fn H (ds ++ [])).args = ds) (hvars : (s.fn H (ds ++ [])).vars = []) (htypes : ∀ t ∈ f.params.toList, P.readableRec t = true ∧ t < P.types.size)
  (hW : DataW.Whole enc P f.params.toList s.vars false W args.toList ds [] before) (hbel : Below W.heap.size W W') : s.post enc P f false true false false W args (.bool true) W' := by
 have hlt := hW.lt
 have hW' := hW
 obtain ⟨p, q, h1, h2, rfl, h3, h4⟩ := hW'
 rw [hv] at h2
 have hq : q = [] := h2
 subst hq
 refine ⟨ds, [], p ++ [], [], p, [], hW, ?_, ?_, ?_, World.keptBut_mono (fun x hx => ⟨hx, .inr (.inl (by simpa using hx))⟩) (hbel.frame (· ∈ p ++ [])), fun h => by cases h⟩
 ·rw [hr, hb1, hres]
  exact trodAll_mk1 (shut_bool hb true)
 ·rw [hargs]
  exact trodAll_stays hl hbel htypes (fun x hx => hlt x (by simp [hx])) h1
 ·rw [hv, hvars]; rfl
end
end Go.Proofs.YteadghhmoggjnaaB
end
section
/- Arguments opened, with the form's own reach: boxes, numbers, the structs that the laws of chapter 11 are asked of. -/
set_option linter.unusedVariables false
namespace Go.Proofs.YteadghhmoggjnaaB
open Go.ChangeShapes Go.WideShapes Go.ChangeAt Go.RowKit Go.Deep
open Go.Proofs.Yteadghhmoggjnaa.Q (S33 k33 z33)
open Go.Proofs.YteadghhmoggjnaaW.PrintWords (Kd ReadsRow)
set_option maxRecDepth 1000000
set_option maxHeartbeats 1600000
theorem own_ : ownKnob Try.prog.godebug = none := by kernel_rfl
theorem laidOut_ : laidOutB Try.prog = true := by kernel_rfl
theorem list_of {α : Type} {Q : Nat → α → Prop} : ∀ (n : Nat), (∀ i, i < n → ∃ x, Q i x) → ∃ l : List α, l.length = n ∧ ∀ i x, l[i]? = some x → Q i x
 | 0, _ => ⟨[], rfl, fun i x h => by simp at h⟩
 | n + 1, h => by
  obtain ⟨l, hl, hq⟩ := list_of n fun i hi => h i (by omega)
  obtain ⟨x, hx⟩ := h n (by omega)
  refine ⟨l ++ [x], by simp [hl], fun i y hy => ?_⟩
  rcases Nat.lt_or_ge i l.length with hi | hi
  ·rw [List.getElem?_append_left hi] at hy; exact hq i y hy
  ·rw [List.getElem?_append_right hi] at hy
   have h0 : i - l.length = 0 := by
    rcases Nat.eq_zero_or_pos (i - l.length) with h | h
    ·exact h
    ·rw [List.getElem?_eq_none (by simp; omega)] at hy; cases hy
   rw [h0] at hy
   have e1 : i = n := by omega
   have e2 : x = y := by simpa using hy
   rw [e1, ← e2]; exact hx
/-- What a reading weighs is within reach. -/
def Light {H : Type} (P : Program) (t : TypeId) (d : DataW H) : Prop := ∀ n ∈ d.weights P t, n ≤ reachBytes
section
variable {H : Type} {enc : TypeId × Value → H} {P : Program} {w : World} {spare : Nat → Bool} {held : Bool}
theorem weightsAll_mem {e : TypeId} : ∀ {l : List (DataW H)} {d : DataW H}, d ∈ l → ∀ n ∈ d.weights P e, n ∈ DataW.weightsAll P e l
 | d' :: r, d, hd, n, hn => by
  simp only [DataW.weightsAll, List.mem_append]
  rcases List.mem_cons.1 hd with rfl | h
  ·exact Or.inl hn
  ·exact Or.inr (weightsAll_mem h n hn)
theorem Light.field {t : TypeId} {fs : Array Field} {ys : List (DataW H × List MemPlace)} (ht : P.underlying t = some (.struct fs)) (h : Light P t (.agg (ys.map (·.1)))) {i : Nat} {f : Field} {y : DataW H × List MemPlace} (hf : fs[i]? = some f) (hy : ys[i]? = some y) : Light P f.type y.1 := fun n hn => by
 refine h n ?_
 simp only [DataW.weights, ht]
 exact DataW.weights_mem_each (j := i) (t := f.type) (d := y.1) (by rw [List.getElem?_map, Array.getElem?_toList, hf]; rfl) (by rw [List.getElem?_map, hy]; rfl) n hn
theorem open_kindS {α : Type} (d : Kind α) (Pz : α → Prop) {t e : TypeId} {cs0 : List Value} {x : DataW H × List MemPlace} {fuel : Nat} (ht : P.underlying t = some (.slice e)) (hsz : P.cellsOf e = d.sz) (hs0 : 0 < d.sz)
  (hel : ∀ (n : Nat) (cs : List Value) (y : DataW H × List MemPlace), cs.length = d.sz → DataW.trod enc P w 0 spare held n e cs = some y → Light P e y.1 → ∃ z : α, d.K w (fun _ => True) z cs ∧ Pz z)
  (hf : DataW.trod enc P w 0 spare held fuel t cs0 = some x) (hx : Light P t x.1) : ∃ A n c l, cs0 = [.slice A n c] ∧ n ≤ c ∧ c ≤ maxLen ∧ d.Rd w (fun _ => True) A n l ∧ (∀ z ∈ l, Pz z) ∧ n * P.bytesOf e ≤ reachBytes := by
 rcases open_slice ht hf with ⟨hc, -⟩ | ⟨a, len, cap, m, n, D, Pl, hc, hb, hl, hm, hmm, hxe, hi⟩
 ·exact ⟨none, 0, 0, [], hc, Nat.le_refl _, Nat.zero_le _, Kind.Rd.nil _ _ _ _, (fun z hz => by cases hz), (by rw [Nat.zero_mul]; exact Nat.zero_le _)⟩
 ·refine ⟨some a, len, cap, ?_⟩
  have hlm : len ≤ m := by rw [hmm]; split <;> omega
  have hw1 : ∀ i, i < len → Light P e (D i) := fun i hil n hn => by
   refine hx n ?_
   rw [hxe]
   simp only [DataW.weights, ht, List.mem_cons, List.mem_append]
   exact .inr (.inl (weightsAll_mem (List.mem_map.2 ⟨i, List.mem_range.2 hil, rfl⟩) n hn))
  have hw2 : len * P.bytesOf e ≤ reachBytes := by
   have := hx ((len + (m - len)) * P.bytesOf e) (by
    rw [hxe]
    simp [DataW.weights, ht])
   exact Nat.le_trans (Nat.mul_le_mul_right _ (Nat.le_add_right _ _)) this
  have hq : ∀ i, i < len → ∃ z : α, Pz z ∧ ∃ cs, d.K w (fun _ => True) z cs ∧ ∀ j u, cs[j]? = some u → w.cell? (a.add (i * d.sz + j)) = some u := by
   intro i hil
   obtain ⟨cs', h1, h2⟩ := hi i (by omega)
   rw [hsz] at h1
   obtain ⟨-, hlen, hat⟩ := World.cells?_some h1
   obtain ⟨z, hz, hPz⟩ := hel n cs' _ hlen h2 (hw1 i hil)
   refine ⟨z, hPz, cs', hz, fun j u hu => ?_⟩
   have hj : j < d.sz := by rw [← hlen]; exact (List.getElem?_eq_some_iff.1 hu).1
   rw [← add_add, hat j hj, hu]
  obtain ⟨l, hll, hlq⟩ := list_of len hq
  refine ⟨l, hc, hl, hm, ⟨hll, fun hp => ?_⟩, fun z hz => ?_, hw2⟩
  ·obtain ⟨z, hz⟩ : ∃ z, l[0]? = some z := ⟨_, List.getElem?_eq_getElem (by omega)⟩
   obtain ⟨-, cs, hK, hcell⟩ := hlq 0 z hz
   obtain ⟨u, hu⟩ : ∃ u, cs[0]? = some u := ⟨_, List.getElem?_eq_getElem (by rw [d.len hK]; omega)⟩
   have h0 := hcell 0 u hu
   rw [Nat.zero_mul, Nat.add_zero] at h0
   have ha : a.add 0 = a := by unfold Addr.add; rw [if_pos rfl]
   rw [ha] at h0
   have hfl := addr_flat h0
   refine ⟨a.block, a.off, congrArg some hfl, trivial, ?_, fun i y hy => ?_⟩
   ·rw [hfl] at h0; exact cell_lt h0
   ·obtain ⟨-, cs, hK, hcell⟩ := hlq i y hy
    refine ⟨cs, hK, fun j u hu => ?_⟩
    have := hcell j u hu
    rw [hfl, Addr.add_lit] at this
    rw [← this, Nat.add_assoc]
  ·obtain ⟨i, hi, rfl⟩ := List.mem_iff_getElem.1 hz
   exact (hlq i _ (List.getElem?_eq_getElem hi)).1
end
section
variable {H : Type} {enc : TypeId × Value → H} {w : World} {spare : Nat → Bool} {held : Bool}
theorem int_el (n : Nat) (cs : List Value) (y : DataW H × List MemPlace) (hl : cs.length = Kind.int.sz) (h : DataW.trod enc Try.prog w 0 spare held n 3 cs = some y) (hy : Light Try.prog 3 y.1) : ∃ z : Int, Kind.int.K w (fun _ => True) z cs ∧ True := by
 obtain ⟨k, e0, -, -⟩ := DataW.trod_int Try.underlying3 h
 exact ⟨k, e0, trivial⟩
end
end Go.Proofs.YteadghhmoggjnaaB
end
section
/- What FillAgain is asked of, opened. -/
set_option linter.unusedVariables false
namespace Go.Proofs.YteadghhmoggjnaaB
open Go.ChangeShapes Go.WideShapes Go.ChangeAt Go.RowKit Go.Deep
open Go.Proofs.YteadghhmoggjnaaW.PrintWords (Kd ReadsRow)
set_option maxRecDepth 1000000
set_option maxHeartbeats 1600000
theorem open_again {H : Type} {enc : TypeId × Value → H} {w : World} {spare : Nat → Bool} {held : Bool} {r : Reach} {b0 : Nat} {v : Value} {x : DataW H} {ps : List MemPlace} (hval : Value.okWide Try.prog w r b0 38 v) (h : DataW.Trod enc Try.prog w 0 spare held 38 v x ps) (hx : Light Try.prog 38 x) :
  ∃ (A0 : Option Addr) (c0 : Nat) (ns : List Int) (A1 : Option Addr) (c1 : Nat) (more : List Int) (len hn : Int), v = .agg #[.slice A0 ns.length c0, .slice A1 more.length c1, .int .i64 len, .int .i64 hn] ∧
   ns.length ≤ c0 ∧ more.length ≤ c1 ∧ (Kd.int .i64).C w A0 ns.length ns ∧ (Kd.int .i64).C w A1 more.length more := by
 obtain ⟨cs, rfl, hsz⟩ := okWide_struct Try.underlying38 hval
 obtain ⟨fuel, hf0⟩ := h
 have hc : Try.prog.cellsOf 38 = 4 := by kernel_rfl
 rw [hc] at hsz
 obtain ⟨ys, n', -, hye, -, hyl, hf⟩ := DataW.trod_struct Try.underlying38 hf0
 have hxe : x = .agg (ys.map (·.1)) := by injection hye
 rw [hxe] at hx
 obtain ⟨cl, rfl⟩ : ∃ l : List Value, cs = l.toArray := ⟨cs.toList, by simp⟩
 have h4 : cl.length = 4 := by simpa using hsz
 have hy4 : ys.length = 4 := hyl
 match cl, h4 with
 | [a0, a1, a2, a3], _ =>
  have f0 := hf 0 _ rfl
  have f1 := hf 1 _ rfl
  have f2 := hf 2 _ rfl
  have f3 := hf 3 _ rfl
  have w0 := hx.field Try.underlying38 (i := 0) rfl (List.getElem?_eq_getElem (by omega))
  have w1 := hx.field Try.underlying38 (i := 1) rfl (List.getElem?_eq_getElem (by omega))
  rw [List.getElem?_eq_getElem (by omega)] at f0 f1 f2 f3
  have ci : Try.prog.cellsOf 3 = 1 := by kernel_rfl
  have cn : Try.prog.cellsOf 22 = 1 := by kernel_rfl
  obtain ⟨A0, m0, c0, ns, e0, hmc0, hcm0, hr0, -, -⟩ := open_kindS Kind.int (fun _ => True) Try.underlying22 (by kernel_rfl) (by decide) int_el f0 w0
  obtain ⟨A1, m1, c1, more, e1, hmc1, hcm1, hr1, -, -⟩ := open_kindS Kind.int (fun _ => True) Try.underlying22 (by kernel_rfl) (by decide) int_el f1 w1
  obtain ⟨k2, e2, -, b2⟩ := DataW.trod_int Try.underlying3 f2
  obtain ⟨k3, e3, -, b3⟩ := DataW.trod_int Try.underlying3 f3
  have g0 : List.take (Try.prog.cellsOf 22) [a0, a1, a2, a3] = [.slice A0 m0 c0] := e0
  have g1 : List.take (Try.prog.cellsOf 22) [a1, a2, a3] = [.slice A1 m1 c1] := e1
  have g2 : List.take (Try.prog.cellsOf 3) [a2, a3] = [.int .i64 k2] := e2
  have g3 : List.take (Try.prog.cellsOf 3) [a3] = [.int .i64 k3] := e3
  rw [ci] at g2 g3
  rw [cn] at g0 g1
  have z0 : a0 = .slice A0 m0 c0 := by simpa using g0
  have z1 : a1 = .slice A1 m1 c1 := by simpa using g1
  have z2 : a2 = .int .i64 k2 := by simpa using g2
  have z3 : a3 = .int .i64 k3 := by simpa using g3
  have hm : maxLen = 9223372036854775807 := rfl
  have hl0 : ns.length = m0 := hr0.1
  have hl1 : more.length = m1 := hr1.1
  subst hl0
  subst hl1
  exact ⟨A0, c0, ns, A1, c1, more, k2, k3, by rw [z0, z1, z2, z3], hmc0, hmc1, C_ints (by omega) hr0, C_ints (by omega) hr1⟩
end Go.Proofs.YteadghhmoggjnaaB
end
