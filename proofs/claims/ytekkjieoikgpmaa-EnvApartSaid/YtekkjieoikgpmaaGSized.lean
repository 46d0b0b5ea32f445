/- Arguments opened, with the form's own reach: what is general. -/
import Derived.Test.YtekkjieoikgpmaaGEls
import Derived.Deep.Slices
import Derived.Deep.Fields
import Derived.SizedLaws
import Derived.ChangeMaps5
set_option linter.unusedVariables false
namespace Go.Proofs.Ytekkjieoikgpmaa
open Go.ChangeShapes Go.WideShapes Go.ChangeAt Go.RowKit Go.Deep
set_option maxRecDepth 1000000
set_option maxHeartbeats 1600000
theorem reach_eq : reachBytes = 140737488351232 := rfl
/-- What a reading weighs is within reach. -/
def Light {H : Type} (P : Program) (t : TypeId) (d : DataW H) : Prop := ∀ n ∈ d.weights P t, n ≤ reachBytes
section
variable {H : Type} {enc : TypeId × Value → H} {P : Program} {w : World} {spare : Nat → Bool} {held : Bool}
theorem weightsAll_mem {e : TypeId} : ∀ {l : List (DataW H)} {d : DataW H}, d ∈ l → ∀ n ∈ d.weights P e, n ∈ DataW.weightsAll P e l
  | d' :: r, d, hd, n, hn => by
    simp only [DataW.weightsAll, List.mem_append]
    rcases List.mem_cons.1 hd with rfl | h
    · exact Or.inl hn
    · exact Or.inr (weightsAll_mem h n hn)
theorem Light.field {t : TypeId} {fs : Array Field} {ys : List (DataW H × List MemPlace)} (ht : P.underlying t = some (.struct fs)) (h : Light P t (.agg (ys.map (·.1)))) {i : Nat} {f : Field} {y : DataW H × List MemPlace} (hf : fs[i]? = some f) (hy : ys[i]? = some y) : Light P f.type y.1 := fun n hn => by
  refine h n ?_
  simp only [DataW.weights, ht]
  exact DataW.weights_mem_each (j := i) (t := f.type) (d := y.1) (by rw [List.getElem?_map, Array.getElem?_toList, hf]; rfl) (by rw [List.getElem?_map, hy]; rfl) n hn
theorem open_kindS {α : Type} (d : Kind α) (Pz : α → Prop) {t e : TypeId} {cs0 : List Value} {x : DataW H × List MemPlace} {fuel : Nat} (ht : P.underlying t = some (.slice e)) (hsz : P.cellsOf e = d.sz) (hs0 : 0 < d.sz)
    (hel : ∀ (n : Nat) (cs : List Value) (y : DataW H × List MemPlace), cs.length = d.sz → DataW.trod enc P w 0 spare held n e cs = some y → Light P e y.1 → ∃ z : α, d.K w (fun _ => True) z cs ∧ Pz z)
    (hf : DataW.trod enc P w 0 spare held fuel t cs0 = some x) (hx : Light P t x.1) : ∃ A n c l, cs0 = [.slice A n c] ∧ n ≤ c ∧ c ≤ maxLen ∧ d.Rd w (fun _ => True) A n l ∧ (∀ z ∈ l, Pz z) ∧ n * P.bytesOf e ≤ reachBytes := by
  rcases open_slice ht hf with ⟨hc, -⟩ | ⟨a, len, cap, m, n, D, Pl, hc, hb, hl, hm, hmm, hxe, hi⟩
  · exact ⟨none, 0, 0, [], hc, Nat.le_refl _, Nat.zero_le _, Kind.Rd.nil _ _ _ _, (fun z hz => by cases hz), (by rw [Nat.zero_mul]; exact Nat.zero_le _)⟩
  · refine ⟨some a, len, cap, ?_⟩
    have hlm : len ≤ m := by rw [hmm]; split <;> omega
    have hw1 : ∀ i, i < len → Light P e (D i) := fun i hil n hn => by
      refine hx n ?_
      rw [hxe]
      simp only [DataW.weights, ht, List.mem_cons, List.mem_append]
      exact .inr (.inl (weightsAll_mem (List.mem_map.2 ⟨i, List.mem_range.2 hil, rfl⟩) n hn))
    have hw2 : len * P.bytesOf e ≤ reachBytes := by
      have := hx ((len + (m - len)) * P.bytesOf e) (by
        rw [hxe]
        simp [DataW.weights, ht])
      exact Nat.le_trans (Nat.mul_le_mul_right _ (Nat.le_add_right _ _)) this
    have hq : ∀ i, i < len → ∃ z : α, Pz z ∧ ∃ cs, d.K w (fun _ => True) z cs ∧ ∀ j u, cs[j]? = some u → w.cell? (a.add (i * d.sz + j)) = some u := by
      intro i hil
      obtain ⟨cs', h1, h2⟩ := hi i (by omega)
      rw [hsz] at h1
      obtain ⟨-, hlen, hat⟩ := World.cells?_some h1
      obtain ⟨z, hz, hPz⟩ := hel n cs' _ hlen h2 (hw1 i hil)
      refine ⟨z, hPz, cs', hz, fun j u hu => ?_⟩
      have hj : j < d.sz := by rw [← hlen]; exact (List.getElem?_eq_some_iff.1 hu).1
      rw [← add_add, hat j hj, hu]
    obtain ⟨l, hll, hlq⟩ := list_of len hq
    refine ⟨l, hc, hl, hm, ⟨hll, fun hp => ?_⟩, fun z hz => ?_, hw2⟩
    · obtain ⟨z, hz⟩ : ∃ z, l[0]? = some z := ⟨_, List.getElem?_eq_getElem (by omega)⟩
      obtain ⟨-, cs, hK, hcell⟩ := hlq 0 z hz
      obtain ⟨u, hu⟩ : ∃ u, cs[0]? = some u := ⟨_, List.getElem?_eq_getElem (by rw [d.len hK]; omega)⟩
      have h0 := hcell 0 u hu
      rw [Nat.zero_mul, Nat.add_zero] at h0
      have ha : a.add 0 = a := by unfold Addr.add; rw [if_pos rfl]
      rw [ha] at h0
      have hfl := addr_flat h0
      refine ⟨a.block, a.off, congrArg some hfl, trivial, ?_, fun i y hy => ?_⟩
      · rw [hfl] at h0; exact cell_lt h0
      · obtain ⟨-, cs, hK, hcell⟩ := hlq i y hy
        refine ⟨cs, hK, fun j u hu => ?_⟩
        have := hcell j u hu
        rw [hfl, Addr.add_lit] at this
        rw [← this, Nat.add_assoc]
    · obtain ⟨i, hi, rfl⟩ := List.mem_iff_getElem.1 hz
      exact (hlq i _ (List.getElem?_eq_getElem hi)).1
theorem Light.str {t : TypeId} {s : ByteArray} (h : Light (H := H) P t (.lit (.string s.data.toList))) : s.size ≤ reachBytes := h s.size (by simp [DataW.weights])
end
section
variable {H : Type} {enc : TypeId × Value → H} {w : World} {spare : Nat → Bool} {held : Bool}
theorem int_elS (n : Nat) (cs : List Value) (y : DataW H × List MemPlace) (hl : cs.length = Kind.int.sz) (h : DataW.trod enc Try.prog w 0 spare held n 3 cs = some y) (hy : Light Try.prog 3 y.1) : ∃ z : Int, Kind.int.K w (fun _ => True) z cs ∧ True := by
  obtain ⟨k, e0, -, -⟩ := DataW.trod_int Try.underlying3 h
  exact ⟨k, e0, trivial⟩
theorem str_elS (n : Nat) (cs : List Value) (y : DataW H × List MemPlace) (hl : cs.length = Kind.str.sz) (h : DataW.trod enc Try.prog w 0 spare held n 9 cs = some y) (hy : Light Try.prog 9 y.1) : ∃ z : ByteArray, Kind.str.K w (fun _ => True) z cs ∧ z.size ≤ reachBytes := by
  obtain ⟨s, e0, hye, -⟩ := DataW.trod_string Try.underlying9 h
  rw [hye] at hy
  exact ⟨s, e0, Light.str hy⟩
end
end Go.Proofs.Ytekkjieoikgpmaa
